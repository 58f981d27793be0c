/-
  Paths as text: parsing undoes formatting; where words end; the laws.
-/
import Derived.Test.YtlpnjoenkohadaaDoorZV
import Derived.Test.YtlpnjoenkohadaaDoorRows
namespace Go.Proofs.YtlpnjoenkohadaaDoor
set_option linter.unusedVariables false
set_option linter.unusedSimpArgs false
open Go.RowKit

section
variable {ws : List (List UInt8)}
theorem failAt_none : ∀ {m i : Nat}, (∀ t, t < m → numE ws (i + t) = 0) → failAt ws m i = none
  | 0, i, _ => rfl
  | m + 1, i, h => by
    have h0 := h 0 (by omega)
    rw [Nat.add_zero] at h0
    rw [failAt, if_pos h0]
    exact failAt_none fun t ht => by have := h (t + 1) (by omega); rw [show i + (t + 1) = i + 1 + t by omega] at this; exact this
theorem failAt_some : ∀ {m i j : Nat}, (∀ t, t < j → numE ws (i + t) = 0) → j < m → numE ws (i + j) ≠ 0 → failAt ws m i = some (i + j)
  | 0, i, j, _, h, _ => absurd h (Nat.not_lt_zero _)
  | m + 1, i, 0, _, _, h => by rw [Nat.add_zero] at h; rw [failAt, if_neg h, Nat.add_zero]
  | m + 1, i, j + 1, h, hj, h2 => by
    have h0 := h 0 (by omega)
    rw [Nat.add_zero] at h0
    rw [failAt, if_pos h0, failAt_some (j := j) (fun t ht => by have := h (t + 1) (by omega); rw [show i + (t + 1) = i + 1 + t by omega] at this; exact this) (by omega) (by rw [show i + 1 + j = i + (j + 1) by omega]; exact h2)]
    congr 1; omega
theorem failAt_zero : ∀ {m i : Nat}, failAt ws m i = none → ∀ t, t < m → numE ws (i + t) = 0
  | 0, i, _, t, ht => absurd ht (Nat.not_lt_zero _)
  | m + 1, i, h, t, ht => by
    rw [failAt] at h
    split at h
    · rename_i h0
      cases t with
      | zero => exact h0
      | succ t => rw [show i + (t + 1) = i + 1 + t by omega]; exact failAt_zero h t (by omega)
    · cases h
theorem failAt_bad : ∀ {m i j : Nat}, failAt ws m i = some j → numE ws j ≠ 0
  | 0, i, j, h => by cases h
  | m + 1, i, j, h => by
    rw [failAt] at h
    split at h
    · exact failAt_bad h
    · rename_i h0; injection h with h; rw [← h]; exact h0
theorem numE_ok {i : Nat} (h : numE ws i = 0) : ∃ x, ws[i]? = some x ∧ piE x = 0 ∧ numV ws i = piV x := by
  unfold numE at h
  unfold numV
  cases hx : ws[i]? with
  | none => rw [hx] at h; cases h
  | some x =>
    rw [hx] at h
    refine ⟨x, rfl, ?_, rfl⟩
    have h : wnE x = 0 := h
    unfold wnE at h
    split at h
    · assumption
    · split at h <;> cases h
theorem numE_fmt {i : Nat} {z : Int} (h : ws[i]? = some (fmtI z)) (hz : -1048576 ≤ z ∧ z ≤ 1048576) : numE ws i = 0 ∧ numV ws i = z := by
  obtain ⟨h1, h2⟩ := pi_fmt (n := z) (by omega)
  unfold numE numV
  rw [h]
  exact ⟨by show wnE (fmtI z) = 0; rw [wnE, if_pos h1], h2⟩
end
def nums (s : Sg) : List (List UInt8) := (ptsS s).flatMap fmt2
theorem segW_eq (s : Sg) : segW s = [letS s.v] :: nums s := rfl
def Rg (z : Int) : Prop := -1048576 ≤ z ∧ z ≤ 1048576
/-- A good segment, by its verb. -/
theorem good_cases {s : Sg} (h : GoodS s) : (∃ v a b, (v = 1 ∨ v = 2) ∧ s = ⟨v, a, b, 0, 0, 0, 0⟩ ∧ nums s = [fmtI a, fmtI b] ∧ Rg a ∧ Rg b) ∨ (∃ a b c d, s = ⟨3, a, b, c, d, 0, 0⟩ ∧ nums s = [fmtI a, fmtI b, fmtI c, fmtI d] ∧ Rg a ∧ Rg b ∧ Rg c ∧ Rg d)
    ∨ (∃ a b c d e f, s = ⟨4, a, b, c, d, e, f⟩ ∧ nums s = [fmtI a, fmtI b, fmtI c, fmtI d, fmtI e, fmtI f] ∧ Rg a ∧ Rg b ∧ Rg c ∧ Rg d ∧ Rg e ∧ Rg f) ∨ (s = ⟨5, 0, 0, 0, 0, 0, 0⟩ ∧ nums s = []) := by
  obtain ⟨hv, hf⟩ := h
  obtain ⟨ra, rb, rc⟩ := fits_rng hf
  obtain ⟨v, a, b, c, d, e, f⟩ := s
  have hv : v = 1 ∨ v = 2 ∨ v = 3 ∨ v = 4 ∨ v = 5 := hv
  rcases hv with rfl | rfl | rfl | rfl | rfl
  · simp [fitsB, okP, namedI] at hf
    obtain ⟨⟨h1, h2, h3, h4⟩, h5⟩ := hf
    obtain ⟨h6, h7, h8⟩ := h5
    subst h3 h4 h7 h8
    exact .inl ⟨1, a, b, .inl rfl, rfl, rfl, ⟨ra.1, ra.2.1⟩, ra.2.2⟩
  · simp [fitsB, okP, namedI] at hf
    obtain ⟨⟨h1, h2, h3, h4⟩, h5⟩ := hf
    obtain ⟨h6, h7, h8⟩ := h5
    subst h3 h4 h7 h8
    exact .inl ⟨2, a, b, .inr rfl, rfl, rfl, ⟨ra.1, ra.2.1⟩, ra.2.2⟩
  · simp [fitsB, okP, namedI] at hf
    obtain ⟨h1, h6, h7, h8⟩ := hf
    subst h7 h8
    exact .inr (.inl ⟨a, b, c, d, rfl, rfl, ⟨ra.1, ra.2.1⟩, ra.2.2, ⟨rb.1, rb.2.1⟩, rb.2.2⟩)
  · exact .inr (.inr (.inl ⟨a, b, c, d, e, f, rfl, rfl, ⟨ra.1, ra.2.1⟩, ra.2.2, ⟨rb.1, rb.2.1⟩, rb.2.2, ⟨rc.1, rc.2.1⟩, rc.2.2⟩))
  · simp [fitsB, okP, namedI] at hf
    obtain ⟨⟨⟨h1, h2, h3⟩, h4, h5, h6⟩, h7, h8, h9⟩ := hf
    subst h2 h3 h5 h6 h8 h9
    exact .inr (.inr (.inr ⟨rfl, rfl⟩))
theorem letS_verb {v : Int} (hv : v = 1 ∨ v = 2 ∨ v = 3 ∨ v = 4 ∨ v = 5) : verbI [letS v] = v := by
  rcases hv with rfl | rfl | rfl | rfl | rfl <;> decide
theorem good_nums {s : Sg} (h : GoodS s) : (nums s).length = 2 * (namedI s.v).toNat ∧ ∀ x ∈ nums s, ∃ z, x = fmtI z ∧ Rg z := by
  rcases good_cases h with ⟨v, a, b, hv, rfl, hn, ha, hb⟩ | ⟨a, b, c, d, rfl, hn, ha, hb, hc, hd⟩ | ⟨a, b, c, d, e, f, rfl, hn, ha, hb, hc, hd, he, hf⟩ | ⟨rfl, hn⟩
  · rw [hn]
    refine ⟨by rcases hv with rfl | rfl <;> rfl, fun x hx => ?_⟩
    simp only [List.mem_cons, List.not_mem_nil, or_false] at hx
    rcases hx with rfl | rfl
    · exact ⟨_, rfl, ha⟩
    · exact ⟨_, rfl, hb⟩
  · rw [hn]
    refine ⟨rfl, fun x hx => ?_⟩
    simp only [List.mem_cons, List.not_mem_nil, or_false] at hx
    rcases hx with rfl | rfl | rfl | rfl
    · exact ⟨_, rfl, ha⟩
    · exact ⟨_, rfl, hb⟩
    · exact ⟨_, rfl, hc⟩
    · exact ⟨_, rfl, hd⟩
  · rw [hn]
    refine ⟨rfl, fun x hx => ?_⟩
    simp only [List.mem_cons, List.not_mem_nil, or_false] at hx
    rcases hx with rfl | rfl | rfl | rfl | rfl | rfl
    · exact ⟨_, rfl, ha⟩
    · exact ⟨_, rfl, hb⟩
    · exact ⟨_, rfl, hc⟩
    · exact ⟨_, rfl, hd⟩
    · exact ⟨_, rfl, he⟩
    · exact ⟨_, rfl, hf⟩
  · rw [hn]
    exact ⟨rfl, fun x hx => by cases hx⟩
theorem good_sg {s : Sg} {ws : List (List UInt8)} {i : Nat} (h : GoodS s) (hw : ∀ t, t < (nums s).length → ws[i + 1 + t]? = (nums s)[t]?) : sgOf ws s.v i = s := by
  rcases good_cases h with ⟨v, a, b, hv, rfl, hn, ha, hb⟩ | ⟨a, b, c, d, rfl, hn, ha, hb, hc, hd⟩ | ⟨a, b, c, d, e, f, rfl, hn, ha, hb, hc, hd, he, hf⟩ | ⟨rfl, hn⟩
  · rw [hn] at hw
    have n1 := (numE_fmt (hw 0 (by simp)) ha).2
    have n2 := (numE_fmt (hw 1 (by simp)) hb).2
    show sgOf ws v i = _
    unfold sgOf
    rw [if_neg (by omega), if_neg (by omega), if_neg (by omega)]
    show Sg.mk v (numV ws (i + 1 + 0)) (numV ws (i + 1 + 1)) 0 0 0 0 = _
    rw [n1, n2]
  · rw [hn] at hw
    have n1 := (numE_fmt (hw 0 (by simp)) ha).2
    have n2 := (numE_fmt (hw 1 (by simp)) hb).2
    have n3 := (numE_fmt (hw 2 (by simp)) hc).2
    have n4 := (numE_fmt (hw 3 (by simp)) hd).2
    show sgOf ws 3 i = _
    unfold sgOf
    rw [if_neg (by decide), if_neg (by decide), if_pos rfl]
    show Sg.mk 3 (numV ws (i + 1 + 0)) (numV ws (i + 1 + 1)) (numV ws (i + 1 + 2)) (numV ws (i + 1 + 3)) 0 0 = _
    rw [n1, n2, n3, n4]
  · rw [hn] at hw
    have n1 := (numE_fmt (hw 0 (by simp)) ha).2
    have n2 := (numE_fmt (hw 1 (by simp)) hb).2
    have n3 := (numE_fmt (hw 2 (by simp)) hc).2
    have n4 := (numE_fmt (hw 3 (by simp)) hd).2
    have n5 := (numE_fmt (hw 4 (by simp)) he).2
    have n6 := (numE_fmt (hw 5 (by simp)) hf).2
    show sgOf ws 4 i = _
    unfold sgOf
    rw [if_neg (by decide), if_pos rfl]
    show Sg.mk 4 (numV ws (i + 1 + 0)) (numV ws (i + 1 + 1)) (numV ws (i + 1 + 2)) (numV ws (i + 1 + 3)) (numV ws (i + 1 + 4)) (numV ws (i + 1 + 5)) = _
    rw [n1, n2, n3, n4, n5, n6]
  · rfl
theorem get_mid {α : Type} (p l : List α) (t : Nat) : (p ++ l)[p.length + t]? = l[t]? := by
  rw [List.getElem?_append_right (by omega)]; congr 1; omega
/-- One good segment's words are read. -/
theorem parse_seg {pre rest : List (List UInt8)} {s : Sg} {acc : List Sg} (h : GoodS s) : parseW (pre ++ segW s ++ rest) pre.length acc = parseW (pre ++ segW s ++ rest) (pre.length + (segW s).length) (acc ++ [s]) := by
  obtain ⟨ws, hws⟩ : ∃ ws, ws = pre ++ segW s ++ rest := ⟨_, rfl⟩
  rw [← hws]
  have hat : ∀ t, t < (segW s).length → ws[pre.length + t]? = (segW s)[t]? := fun t ht => by
    rw [hws, List.append_assoc, get_mid, List.getElem?_append_left ht]
  obtain ⟨hl, hm⟩ := good_nums h
  have hsl : (segW s).length = 1 + (nums s).length := by rw [segW_eq, List.length_cons]; omega
  have hx : ws[pre.length]? = some [letS s.v] := by have := hat 0 (by omega); rw [Nat.add_zero] at this; exact this
  have hn : ∀ t, t < (nums s).length → ws[pre.length + 1 + t]? = (nums s)[t]? := fun t ht => by
    have := hat (t + 1) (by omega)
    rw [show pre.length + (t + 1) = pre.length + 1 + t by omega] at this
    exact this
  have hf : failAt ws (2 * (namedI s.v).toNat) (pre.length + 1) = none := failAt_none fun t ht => by
    rw [← hl] at ht
    have h1 := hn t ht
    obtain ⟨z, hz, hr⟩ := hm _ (List.getElem_mem ht)
    rw [List.getElem?_eq_getElem ht, hz] at h1
    exact (numE_fmt h1 hr).1
  have h0 : s.v ≠ 0 := by rcases h.1 with e | e | e | e | e <;> omega
  rw [pw_step hx (letS_verb h.1) h0 hf, good_sg h hn, ← hl, hsl]
  congr 1
  omega
theorem parse_segs : ∀ {ls acc : List Sg} {pre rest : List (List UInt8)}, (∀ s ∈ ls, GoodS s) → parseW (pre ++ wordsP ls ++ rest) pre.length acc = parseW (pre ++ wordsP ls ++ rest) (pre.length + (wordsP ls).length) (acc ++ ls)
  | [], acc, pre, rest, _ => by simp [wordsP]
  | s :: ls, acc, pre, rest, h => by
    have e : pre ++ wordsP (s :: ls) ++ rest = pre ++ segW s ++ (wordsP ls ++ rest) := by simp [wordsP]
    have e2 : pre ++ segW s ++ (wordsP ls ++ rest) = (pre ++ segW s) ++ wordsP ls ++ rest := by simp
    rw [e, parse_seg (h s (by simp)), e2]
    have ih := parse_segs (ls := ls) (acc := acc ++ [s]) (pre := pre ++ segW s) (rest := rest) fun t ht => h t (by simp [ht])
    rw [List.length_append] at ih
    rw [ih]
    have e3 : (wordsP (s :: ls)).length = (segW s).length + (wordsP ls).length := by simp [wordsP]
    rw [e3, List.append_assoc acc]
    congr 1
    omega
theorem parse_words {ls : List Sg} (h : ∀ s ∈ ls, GoodS s) : parseW (wordsP ls) 0 [] = endP ls := by
  have h1 := parse_segs (ls := ls) (acc := []) (pre := []) (rest := []) h
  simp only [List.nil_append, List.append_nil, List.length_nil, Nat.zero_add] at h1
  rw [h1, pw_end (Nat.le_refl _)]
theorem fmtI_blank (z : Int) : (32 : UInt8) ∉ fmtI z := by
  unfold fmtI
  split
  · intro h
    rcases List.mem_cons.1 h with h | h
    · exact absurd h (by decide)
    · have := decS_isD _ _ h; exact absurd this.1 (by decide)
  · intro h; have := decS_isD _ _ h; exact absurd this.1 (by decide)
theorem fmtI_ne (z : Int) (h : Rg z) : fmtI z ≠ [] := fun e => by
  have h1 := (pi_fmt (n := z) (by unfold Rg at h; omega)).1
  rw [e] at h1
  exact absurd h1 (by decide)
theorem wordsP_mem {ls : List Sg} (h : ∀ s ∈ ls, GoodS s) : ∀ x ∈ wordsP ls, (32 : UInt8) ∉ x ∧ x ≠ [] := fun x hx => by
  obtain ⟨s, hs, hx⟩ := List.mem_flatMap.1 hx
  rw [segW_eq] at hx
  rcases List.mem_cons.1 hx with rfl | hx
  · refine ⟨?_, by simp⟩
    rcases (h s hs).1 with e | e | e | e | e <;> rw [e] <;> decide
  · obtain ⟨z, rfl, hz⟩ := (good_nums (h s hs)).2 x hx
    exact ⟨fmtI_blank z, fmtI_ne z hz⟩
theorem joinBy_ne {ws : List (List UInt8)} (h0 : ws ≠ []) (h : ∀ x ∈ ws, x ≠ []) : joinBy 32 ws ≠ [] := by
  cases ws with
  | nil => exact absurd rfl h0
  | cons x l => rw [joinBy_cons]; have := h x (by simp); simp [this]
theorem words_joinP {ws : List (List UInt8)} (h : ∀ x ∈ ws, (32 : UInt8) ∉ x ∧ x ≠ []) : wordsF (joinBy 32 ws) = ws := by
  by_cases h0 : ws = []
  · subst h0; rfl
  · unfold wordsF
    rw [if_neg (joinBy_ne h0 fun x hx => (h x hx).2)]
    exact split_join h0 fun x hx => (h x hx).1
theorem words_fmt {ls : List Sg} (h : ∀ s ∈ ls, GoodS s) : wordsF (fmtP ls) = wordsP ls := words_joinP (wordsP_mem h)
theorem join_wordsF (l : List UInt8) : joinBy 32 (wordsF l) = l := by
  unfold wordsF
  split
  · rename_i h; rw [h]; rfl
  · exact join_split 32 l
/-- A path's text is read as the path. -/
theorem parse_fmtP {ls : List Sg} (h : okPath ls = true) : parseP (fmtP ls) = (ls, 0, 0) := by
  obtain ⟨hg, hs⟩ := good_path h
  have h1 := fmtP_len hg
  unfold parseP
  rw [if_neg (by omega), words_fmt hg, parse_words hg, endP, if_pos (of_decide_eq_true h)]
theorem letS_of {x : List UInt8} (h : verbI x ≠ 0) : x = [letS (verbI x)] ∧ (verbI x = 1 ∨ verbI x = 2 ∨ verbI x = 3 ∨ verbI x = 4 ∨ verbI x = 5) := by
  rcases verb_cases x with ⟨rfl, e⟩ | ⟨rfl, e⟩ | ⟨rfl, e⟩ | ⟨rfl, e⟩ | ⟨rfl, e⟩ | ⟨_, e⟩
  · rw [e]; exact ⟨rfl, .inl rfl⟩
  · rw [e]; exact ⟨rfl, .inr (.inl rfl)⟩
  · rw [e]; exact ⟨rfl, .inr (.inr (.inl rfl))⟩
  · rw [e]; exact ⟨rfl, .inr (.inr (.inr (.inl rfl)))⟩
  · rw [e]; exact ⟨rfl, .inr (.inr (.inr (.inr rfl)))⟩
  · exact absurd e h
theorem take_next {α : Type} {l : List α} {k : Nat} {x : α} (h : l[k]? = some x) : l.take (k + 1) = l.take k ++ [x] := by rw [List.take_add_one, h]; rfl
/-- The words of a segment that was read. -/
theorem segW_of {ws : List (List UInt8)} {i : Nat} {v : Int} (hx : ws[i]? = some [letS v]) (hv : v = 1 ∨ v = 2 ∨ v = 3 ∨ v = 4 ∨ v = 5) (hf : failAt ws (2 * (namedI v).toNat) (i + 1) = none) :
    ws.take (i + 1 + 2 * (namedI v).toNat) = ws.take i ++ segW (sgOf ws v i) := by
  have hn := failAt_zero hf
  have key : ∀ t, t < 2 * (namedI v).toNat → ws[i + 1 + t]? = some (fmtI (numV ws (i + 1 + t))) := fun t ht => by
    obtain ⟨x, h1, h2, h3⟩ := numE_ok (hn t ht)
    rw [h3, (fmt_pi h2).1]; exact h1
  have h0 := take_next hx
  rcases hv with rfl | rfl | rfl | rfl | rfl
  · have k0 := take_next (key 0 (by decide)); have k1 := take_next (key 1 (by decide))
    show ws.take (i + 1 + 1 + 1) = _
    rw [show i + 1 + 1 + 1 = i + 1 + 1 + 1 from rfl]
    rw [k1, show i + 1 + 1 = i + 1 + 0 + 1 from rfl, k0, Nat.add_zero, h0]
    simp only [List.append_assoc]
    rfl
  · have k0 := take_next (key 0 (by decide)); have k1 := take_next (key 1 (by decide))
    show ws.take (i + 1 + 1 + 1) = _
    rw [k1, show i + 1 + 1 = i + 1 + 0 + 1 from rfl, k0, Nat.add_zero, h0]
    simp only [List.append_assoc]
    rfl
  · have k0 := take_next (key 0 (by decide)); have k1 := take_next (key 1 (by decide)); have k2 := take_next (key 2 (by decide)); have k3 := take_next (key 3 (by decide))
    show ws.take (i + 1 + 3 + 1) = _
    rw [k3, show i + 1 + 3 = i + 1 + 2 + 1 from rfl, k2, show i + 1 + 2 = i + 1 + 1 + 1 from rfl, k1, show i + 1 + 1 = i + 1 + 0 + 1 from rfl, k0, Nat.add_zero, h0]
    simp only [List.append_assoc]
    rfl
  · have k0 := take_next (key 0 (by decide)); have k1 := take_next (key 1 (by decide)); have k2 := take_next (key 2 (by decide)); have k3 := take_next (key 3 (by decide)); have k4 := take_next (key 4 (by decide)); have k5 := take_next (key 5 (by decide))
    show ws.take (i + 1 + 5 + 1) = _
    rw [k5, show i + 1 + 5 = i + 1 + 4 + 1 from rfl, k4, show i + 1 + 4 = i + 1 + 3 + 1 from rfl, k3, show i + 1 + 3 = i + 1 + 2 + 1 from rfl, k2, show i + 1 + 2 = i + 1 + 1 + 1 from rfl, k1, show i + 1 + 1 = i + 1 + 0 + 1 from rfl, k0, Nat.add_zero, h0]
    simp only [List.append_assoc]
    rfl
  · show ws.take (i + 1) = _
    rw [h0]
    rfl
/-- What parsing answers: an error and no path, or the path of these words. -/
theorem parse_ends (ws : List (List UInt8)) : ∀ (f i : Nat) (acc : List Sg), ws.length - i ≤ f → wordsP acc = ws.take i → ∀ m at_ e, parseW ws i acc = (m, at_, e) → (e ≠ 0 ∧ m = []) ∨ (e = 0 ∧ at_ = 0 ∧ okPath m = true ∧ wordsP m = ws)
  | f, i, acc, hf, hacc, m, at_, e, h => by
    have hend : ws.length ≤ i → (e ≠ 0 ∧ m = []) ∨ (e = 0 ∧ at_ = 0 ∧ okPath m = true ∧ wordsP m = ws) := fun hi => by
      rw [pw_end hi, endP] at h
      split at h
      · rename_i h0
        cases h
        exact .inr ⟨rfl, rfl, decide_eq_true h0, by rw [hacc, List.take_of_length_le hi]⟩
      · rename_i h0
        cases h
        exact .inl ⟨h0, rfl⟩
    rcases Nat.lt_or_ge i ws.length with hi | hi
    case inr => exact hend hi
    obtain ⟨x, hx⟩ : ∃ x, ws[i]? = some x := ⟨_, List.getElem?_eq_getElem hi⟩
    by_cases hv : verbI x = 0
    · rw [pw_verb hx hv] at h
      cases h
      exact .inl ⟨by decide, rfl⟩
    · cases hfa : failAt ws (2 * (namedI (verbI x)).toNat) (i + 1) with
      | some j =>
        rw [pw_fail hx rfl hv hfa] at h
        cases h
        exact .inl ⟨failAt_bad hfa, rfl⟩
      | none =>
        rw [pw_step hx rfl hv hfa] at h
        obtain ⟨hx2, hvv⟩ := letS_of hv
        match f, hf with
        | 0, hf => exact absurd hi (by omega)
        | f + 1, hf =>
          refine parse_ends ws f _ _ (by omega) ?_ m at_ e h
          have hx3 : ws[i]? = some [letS (verbI x)] := by rw [← hx2]; exact hx
          rw [segW_of hx3 hvv hfa, ← hacc]
          simp [wordsP]
/-- The text that was read is the path's. -/
theorem parse_back {l : List UInt8} {m : List Sg} {at_ : Nat} {e : Int} (h : parseP l = (m, at_, e)) : (e ≠ 0 ∧ m = []) ∨ (e = 0 ∧ at_ = 0 ∧ okPath m = true ∧ fmtP m = l) := by
  unfold parseP at h
  split at h
  · cases h
    exact .inl ⟨by decide, rfl⟩
  · rcases parse_ends (wordsF l) _ 0 [] (Nat.le_refl _) (by simp [wordsP]) m at_ e h with h1 | ⟨h1, h2, h3, h4⟩
    · exact .inl h1
    · exact .inr ⟨h1, h2, h3, by unfold fmtP; rw [h4, join_wordsF]⟩

def fmtR (ls : List Sg) : List UInt8 × Int := if okPath ls then (fmtP ls, 0) else ([], 10)
section
variable {w : World} {l : List UInt8} {A : Option Addr} {n c : Nat} {ls : List Sg}
theorem pformat_m {t : List UInt8} {e : Int} (hs : SgAt w A n ls) (hn : n ≤ 1000000) (h : fmtR ls = (t, e)) : Calls Tryd.prog 9 #[.slice A n c] w (CallPost w (fun _ : Unit => .tuple #[strOf t, .int .i64 e]) fun _ _ => True) := by
  unfold fmtR at h
  split at h
  · rename_i h0; cases h; exact format_s hs h0
  · rename_i h0; cases h; exact format_n hs hn (by simpa using h0)
theorem pformatR_m {t : List UInt8} {e : Int} (hs : SgAt w A n ls) (hn : n ≤ 1000000) (h : fmtR ls = (t, e)) : Calls Tryd.prog 10 #[.slice A n c] w (CallPost w (fun _ : Unit => .tuple #[strOf t, .int .i64 e]) fun _ _ => True) := by
  unfold fmtR at h
  split at h
  · rename_i h0; cases h; exact rformat_s hs h0
  · rename_i h0; cases h; exact rformat_n hs hn (by simpa using h0)
theorem sg_nil {y : Option Addr} : SgAt w y 0 [] := ⟨rfl, fun k s hk => by simp at hk⟩
theorem pparse_m {out : List Sg} {at_ : Nat} {e : Int} (hM : ML w) (hl : l.length ≤ 1000000) (hR : parseP l = (out, at_, e)) : Calls Tryd.prog 12 #[strOf l] w (CallPost w (fun y : Option Addr × Nat => .tuple #[.slice y.1 out.length y.2, .int .i64 at_, .int .i64 e]) fun y u => SgAt u y.1 out.length out) := by
  unfold parseP at hR
  split at hR
  · rename_i h0
    cases hR
    exact (parse_big h0 hl).mono fun e w' k => by
      obtain ⟨x, h1, h2, h3⟩ := k
      exact ⟨(none, 0), h1, h2, fun _ _ _ => sg_nil⟩
  · rename_i h0
    by_cases hn : l = []
    · subst hn
      have h1 : parseW (wordsF []) 0 [] = ([], 0, 0) := by rw [pw_end (by decide)]; rfl
      rw [h1] at hR
      cases hR
      exact parse_nil.mono fun e w' k => by
        obtain ⟨x, h1, h2, h3⟩ := k
        exact ⟨(none, 0), h1, h2, fun _ _ _ => sg_nil⟩
    · exact parse_w hM hn (by omega) hR
theorem pparseR_m {out : List Sg} {at_ : Nat} {e : Int} (hl : l.length ≤ 1000000) (hR : parseP l = (out, at_, e)) : Calls Tryd.prog 13 #[strOf l] w (CallPost w (fun y : Option Addr × Nat => .tuple #[.slice y.1 out.length y.2, .int .i64 at_, .int .i64 e]) fun y u => SgAt u y.1 out.length out) := by
  unfold parseP at hR
  split at hR
  · rename_i h0
    cases hR
    exact (rparse_big h0 hl).mono fun e w' k => by
      obtain ⟨x, h1, h2, h3⟩ := k
      exact ⟨(none, 0), h1, h2, fun _ _ _ => sg_nil⟩
  · rename_i h0
    exact rparse_w (by omega) hR
theorem gv_len : ∀ ls : List Sg, (gv ls).length = ls.length * 7
  | [] => rfl
  | s :: ls => by
    have ih := gv_len ls
    show (s.cl ++ gv ls).length = _
    rw [List.length_append, ih]
    show 7 + ls.length * 7 = (ls.length + 1) * 7
    omega
theorem SgAt.reads (h : SgAt w A n ls) : Reads w w.heap.size 7 A n (gv ls) := by
  refine ⟨by rw [gv_len, h.1], fun h0 => ?_⟩
  obtain ⟨s, hs⟩ : ∃ s, ls[0]? = some s := ⟨_, List.getElem?_eq_getElem (by rw [h.1]; exact h0)⟩
  obtain ⟨ad, hA, hc⟩ := h.2 0 s hs
  refine ⟨ad, hA, ?_, fun j u hj => ?_⟩
  · have := cell_lt (hc 0 _ rfl)
    simpa [Addr.add] using this
  · have hjl := (List.getElem?_eq_some_iff.1 hj).1
    rw [gv_len] at hjl
    obtain ⟨k, r, hr, rfl⟩ : ∃ k r, r < 7 ∧ j = k * 7 + r := ⟨j / 7, j % 7, Nat.mod_lt _ (by decide), by omega⟩
    obtain ⟨s, hs⟩ : ∃ s, ls[k]? = some s := ⟨_, List.getElem?_eq_getElem (by omega)⟩
    obtain ⟨ad2, hA2, hc2⟩ := h.2 k s hs
    rw [hA] at hA2; cases hA2
    obtain ⟨v, hv⟩ : ∃ v, s.cl[r]? = some v := ⟨_, List.getElem?_eq_getElem (show r < s.cl.length from hr)⟩
    have := gv_get hs hv
    rw [this] at hj
    injection hj with hj
    rw [← Addr.add_add, ← hj]
    exact hc2 r v hv
theorem segs_one (ls : List Sg) : ∀ v ∈ gv ls, v.oneCell' = true := fun v hv => by
  obtain ⟨s, _, hv⟩ := List.mem_flatMap.1 hv
  simp only [Sg.cl, List.mem_cons, List.not_mem_nil, or_false] at hv
  rcases hv with rfl | rfl | rfl | rfl | rfl | rfl | rfl <;> rfl
theorem run_appS0 {g : Nat} : (appS 22 22 (.slice (some ⟨g, 0, none⟩) 0 0) (.slice A 0 c)).run Tryd.prog w = .ok (.value (.slice (some ⟨g, 0, none⟩) 0 0)) w := by
  have hu : Tryd.prog.underlying 22 = some (.slice 41) := by kernel_rfl
  obtain ⟨i, hi⟩ : ∃ i, Tryd.prog.info? 41 = some i := Option.isSome_iff_exists.1 (by kernel_rfl)
  have hs : Src Tryd.prog i.size 22 (.slice A 0 c) 0 [] w := by
    cases A with
    | none => exact Src.ofNil w hu c
    | some a => exact Src.ofSlice w hu a 0 c [] (by simp) (fun j u h => by simp at h) (fun u h => by cases h)
  simp only [appS, Sem.run_bind, run_append_nothing w _ _ _ _ i hu hi _ 0 0 (Nat.le_refl _) _ hs, Result.andThen_ok, Sem.run_pure]
theorem app_allS {g : Nat} (h : SgAt w A n ls) (hn : n ≤ 100000000) :
    MakePost Tryd.prog w (fun y : Option Addr × Nat => .slice y.1 n y.2) (fun y v => SgAt v y.1 n ls) (appS 22 22 (.slice (some ⟨g, 0, none⟩) 0 0) (.slice A n c)) := by
  by_cases h0 : n = 0
  · subst h0
    have hl : ls = [] := List.length_eq_zero_iff.1 h.1
    subst hl
    exact ⟨(some ⟨g, 0, none⟩, 0), w, run_appS0, Below.refl _ _, fun _ _ _ => sg_nil⟩
  · obtain ⟨ad, hA, _⟩ := h.reads.2 (by omega)
    have hl := h.1
    subst hA
    have := appendG_m (P := Tryd.prog) (w := w) (s := 7) (z := Sg.val ⟨0, 0, 0, 0, 0, 0, 0⟩) (bytes := 56) (n := 0) (c := 0) (m := n) (cc := c) (xs := []) (ys := gv ls) (b := ⟨g, 0, none⟩) (a := ad) (B := 0) (t := 22) (elem := 41) (by kernel_rfl) (by kernel_rfl) rfl (by decide) ⟨by simp, fun h => absurd h (by omega)⟩ h.reads (by omega) (by omega) (by decide) (Nat.zero_le _) (.inr rfl) (.inl (by omega))
    obtain ⟨x, w', h1, h2, h3⟩ := this
    rw [Nat.zero_add] at h1
    exact ⟨x, w', h1, h2, fun w'' k1 k2 => by have h4 := h3 w'' k1 k2; rw [Nat.zero_add, List.nil_append] at h4; exact own_segs h4 hl⟩
theorem lit_segs {g : Nat} {cells : Array Value} (h : litG 41 cells g w) (he : cells.toList = gv ls) (hn : cells.size = ls.length * 7) (hm : ls.length ≤ maxLen) : SgAt w (some ⟨g, 0, none⟩) ls.length ls := by
  have := OwnR.lit (B := 0) h hn (Nat.zero_le _) hm
  rw [he] at this
  exact own_segs this rfl
def exL : List Sg := [⟨1, 0, 0, 0, 0, 0, 0⟩, ⟨2, 256, 0, 0, 0, 0, 0⟩, ⟨5, 0, 0, 0, 0, 0, 0⟩]
theorem exL_ok : okPath exL = true := by decide
theorem exL_fmt : fmtP exL = [77, 32, 48, 32, 48, 32, 76, 32, 50, 53, 54, 32, 48, 32, 90] := by decide +kernel
theorem exL_fmtR : fmtR exL = ([77, 32, 48, 32, 48, 32, 76, 32, 50, 53, 54, 32, 48, 32, 90], 0) := by unfold fmtR; rw [if_pos exL_ok, exL_fmt]
theorem exL_parse : parseP [77, 32, 48, 32, 48, 32, 76, 32, 50, 53, 54, 32, 48, 32, 90] = (exL, 0, 0) := by rw [← exL_fmt]; exact parse_fmtP exL_ok
theorem ex_m0 : parseP [77, 32, 48] = ([], 2, 3) := by
  have hw : wordsF [77, 32, 48] = [[77], fmtI 0] := by decide +kernel
  unfold parseP
  rw [if_neg (by decide), hw]
  have h1 := (numE_fmt (ws := [[77], fmtI 0]) (i := 1) (z := 0) rfl (by decide)).1
  have h2 : numE [[77], fmtI 0] 2 = 3 := rfl
  rw [pw_fail (x := [77]) (v := 1) (j := 2) rfl (by decide) (by decide) (failAt_some (i := 1) (m := 2) (j := 1) (fun t ht => by obtain rfl : t = 0 := by { omega }; exact h1) (by decide) (by rw [h2]; decide)), h2]
theorem ex_bad : parseP [77, 32, 48, 32, 48, 32, 90] = ([], 1, 10) := by
  have hg : ∀ s ∈ ([⟨1, 0, 0, 0, 0, 0, 0⟩, ⟨5, 0, 0, 0, 0, 0, 0⟩] : List Sg), GoodS s := fun s hs => by
    simp only [List.mem_cons, List.not_mem_nil, or_false] at hs
    rcases hs with rfl | rfl
    · exact ⟨.inl rfl, by decide⟩
    · exact ⟨.inr (.inr (.inr (.inr rfl))), by decide⟩
  have hf : fmtP [⟨1, 0, 0, 0, 0, 0, 0⟩, ⟨5, 0, 0, 0, 0, 0, 0⟩] = [77, 32, 48, 32, 48, 32, 90] := by decide +kernel
  have hw := words_fmt hg
  rw [hf] at hw
  unfold parseP
  rw [if_neg (by decide), hw, parse_words hg]
  unfold endP
  rw [if_neg (by decide)]
  rfl
set_option maxRecDepth 100000 in
set_option maxHeartbeats 4000000 in
theorem example14_m (hM : ML w) : Calls Tryd.prog 8 #[] w (CallPost w (fun _ : Unit => .bool true) fun _ _ => True) := by
  refine Good.enter Tryd.func8 rfl ?_
  refine Good.run (by kernel_rfl) (stop := 1000) 1000 _ ?_
  refine Good.make (litS (22) 3 #[(0, Sg.val ⟨1, 0, 0, 0, 0, 0, 0⟩), (1, Sg.val ⟨2, 256, 0, 0, 0, 0, 0⟩), (2, Sg.val ⟨5, 0, 0, 0, 0, 0, 0⟩)]) (litV 3) (litG 41 (gv exL).toArray) (by kernel_rfl) (fun w1 hw h => make_lit (by kernel_rfl)) (fun g => ?_)
  refine Good.run (by kernel_rfl) (stop := 1000) 1000 _ ?_
  refine Good.callv (fun w1 hw h => pformat_m (A := some ⟨g, 0, none⟩) (n := 3) (c := 3) (lit_segs (ls := exL) h.2 rfl rfl (by decide)) (by decide) exL_fmtR) (by kernel_rfl) (fun u => ?_)
  refine Good.run (by kernel_rfl) (stop := 1000) 1000 _ ?_
  refine Good.callv (fun w1 hw h => pparse_m (l := [77, 32, 48, 32, 48, 32, 76, 32, 50, 53, 54, 32, 48, 32, 90]) (hM.below hw) (by decide) exL_parse) (by kernel_rfl) (fun y => ?_)
  refine Good.run (by kernel_rfl) (stop := 1000) 1000 _ ?_
  refine Good.callv (fun w1 hw h => pparse_m (l := [77, 32, 48]) (hM.below hw) (by decide) ex_m0) (by kernel_rfl) (fun y2 => ?_)
  refine Good.run (by kernel_rfl) (stop := 1000) 1000 _ ?_
  refine Good.callv (fun w1 hw h => pparse_m (l := [77, 32, 48, 32, 48, 32, 90]) (hM.below hw) (by decide) ex_bad) (by kernel_rfl) (fun y3 => ?_)
  refine Good.run (by kernel_rfl) (stop := 1000) 1000 _ ?_
  refine Good.callv (fun w1 hw h => pformat_m (A := none) (n := 0) (c := 0) (ls := []) (t := []) (e := 0) sg_nil (by decide) rfl) (by kernel_rfl) (fun u2 => ?_)
  refine Good.run (by kernel_rfl) (stop := 1000) 1000 _ ?_
  refine Good.callv (fun w1 hw h => requal_m (A := y.1) (n := 3) (c := y.2) (ls := exL) (A2 := some ⟨g, 0, none⟩) (n2 := 3) (c2 := 3) (ms := exL) (B := true) h.1.1.1.2 (lit_segs (ls := exL) h.1.1.1.1.1.2 rfl rfl (by decide)) (by decide) (by simp)) (by kernel_rfl) (fun u3 => ?_)
  refine Good.run (by kernel_rfl) (stop := 1000) 1000 _ ?_
  refine Good.ret (v := .bool true) (by kernel_rfl) (fun w1 hw h => ⟨(), rfl, hw, fun _ _ _ => trivial⟩)
set_option maxRecDepth 100000 in
set_option maxHeartbeats 4000000 in
theorem lawFormat (hM : ML w) (hs : SgAt w A n ls) : Calls Tryd.prog 3 #[.slice A n c] w (CallPost w (fun _ : Unit => .bool true) fun _ _ => True) := by
  refine Good.enter Tryd.func3 rfl ?_
  refine Good.run (by kernel_rfl) (stop := 1000) 1000 _ ?_
  by_cases hbig : n > 400
  ·
    refine Good.condr (decide ((n : Int) > 400)) true (by kernel_rfl) (by simp; omega) ?_
    refine Good.run (by kernel_rfl) (stop := 1000) 1000 _ ?_
    refine Good.callv (fun w1 hw h => example14_m (hM.below hw)) (by kernel_rfl) (fun u => ?_)
    refine Good.run (by kernel_rfl) (stop := 1000) 1000 _ ?_
    refine Good.ret (v := .bool true) (by kernel_rfl) (fun w1 hw h => ⟨(), rfl, hw, fun _ _ _ => trivial⟩)
  refine Good.condr (decide ((n : Int) > 400)) false (by kernel_rfl) (by simp; omega) ?_
  refine Good.run (by kernel_rfl) (stop := 1000) 1000 _ ?_
  obtain ⟨t, e, hf⟩ : ∃ t e, fmtR ls = (t, e) := ⟨_, _, rfl⟩
  refine Good.make (litS (22) 0 #[]) (litV 0) (litG 41 #[]) (by kernel_rfl) (fun w1 hw h => make_lit (by kernel_rfl)) (fun g => ?_)
  refine Good.run (by kernel_rfl) (stop := 2) 1000 _ ?_
  refine Good.make (appS 22 22 (.slice (some ⟨g, 0, none⟩) 0 0) (.slice A n c)) (fun y : Option Addr × Nat => .slice y.1 n y.2) (fun y v => SgAt v y.1 n ls) (by kernel_rfl) (fun w1 hw h => app_allS (hs.below hw) (by omega)) (fun y => ?_)
  refine Good.run (by kernel_rfl) (stop := 1000) 1000 _ ?_
  refine Good.callv (fun w1 hw h => pformat_m (A := y.1) (n := n) (c := y.2) h.2 (by omega) hf) (by kernel_rfl) (fun u => ?_)
  refine Good.run (by kernel_rfl) (stop := 1000) 1000 _ ?_
  refine Good.callv (fun w1 hw h => pformatR_m (A := A) (n := n) (c := c) (hs.below hw) (by omega) hf) (by kernel_rfl) (fun u2 => ?_)
  refine Good.run (by kernel_rfl) (stop := 1000) 7 _ ?_
  refine Good.run (by kernel_rfl) (stop := 2) 1000 _ ?_
  refine Good.ask (opS .eql 9 (.tmp 25) (.tmp 26) (strOf t) (strOf t)) (.bool true) (by kernel_rfl) (fun w1 hw h => run_eqS (by simp)) ?_
  refine Good.run (by kernel_rfl) (stop := 7) 1000 _ ?_
  refine Good.slot 31 (.bool (e == e)) (.bool true) (by kernel_rfl) (by simp) ?_
  refine Good.run (by kernel_rfl) (stop := 1000) 1000 _ ?_
  refine Good.callv (fun w1 hw h => requal_m (A := y.1) (n := n) (c := y.2) (ls := ls) (A2 := A) (n2 := n) (c2 := c) (ms := ls) (B := true) h.1.1.2 (hs.below hw) (by omega) (by simp)) (by kernel_rfl) (fun u3 => ?_)
  refine Good.run (by kernel_rfl) (stop := 1000) 1000 _ ?_
  refine Good.callv (fun w1 hw h => example14_m (hM.below hw)) (by kernel_rfl) (fun u4 => ?_)
  refine Good.run (by kernel_rfl) (stop := 1000) 1000 _ ?_
  refine Good.ret (v := .bool true) (by kernel_rfl) (fun w1 hw h => ⟨(), rfl, hw, fun _ _ _ => trivial⟩)
theorem parse_len {l : List UInt8} {m : List Sg} {at_ : Nat} {e : Int} (h : parseP l = (m, at_, e)) : m.length ≤ 256 := by
  rcases parse_back h with ⟨_, rfl⟩ | ⟨_, _, h1, _⟩
  · exact Nat.zero_le _
  · exact (good_path h1).2
set_option maxRecDepth 100000 in
set_option maxHeartbeats 4000000 in
theorem lawParse (hM : ML w) : Calls Tryd.prog 4 #[strOf l] w (CallPost w (fun _ : Unit => .bool true) fun _ _ => True) := by
  refine Good.enter Tryd.func4 rfl ?_
  refine Good.run (by kernel_rfl) (stop := 3) 1000 _ ?_
  obtain ⟨out, at_, e, hR⟩ : ∃ out at_ e, parseP l = (out, at_, e) := ⟨_, _, _, rfl⟩
  have hol : out.length ≤ 1000000 := Nat.le_trans (parse_len hR) (by decide)
  by_cases h1 : l.length > 6000
  ·
    refine Good.slot 11 (.bool (decide ((l.length : Int) > 6000))) (.bool true) (by kernel_rfl) (by simp; omega) ?_
    refine Good.run (by kernel_rfl) (stop := 7) 1000 _ ?_
    by_cases h2 : l.length ≤ 65536
    ·
      refine Good.slot 15 (.bool (decide ((l.length : Int) ≤ 65536))) (.bool true) (by kernel_rfl) (by simp; omega) ?_
      refine Good.run (by kernel_rfl) (stop := 1000) 1000 _ ?_
      refine Good.cond true (by kernel_rfl) ?_
      refine Good.run (by kernel_rfl) (stop := 1000) 1000 _ ?_
      refine Good.callv (fun w1 hw h => example14_m (hM.below hw)) (by kernel_rfl) (fun u => ?_)
      refine Good.run (by kernel_rfl) (stop := 1000) 1000 _ ?_
      refine Good.ret (v := .bool true) (by kernel_rfl) (fun w1 hw h => ⟨(), rfl, hw, fun _ _ _ => trivial⟩)
    ·
      refine Good.slot 15 (.bool (decide ((l.length : Int) ≤ 65536))) (.bool false) (by kernel_rfl) (by simp; omega) ?_
      refine Good.run (by kernel_rfl) (stop := 12) 1000 _ ?_
      by_cases h3 : l.length > 70000
      ·
        refine Good.slot 20 (.bool (decide ((l.length : Int) > 70000))) (.bool true) (by kernel_rfl) (by simp; omega) ?_
        refine Good.run (by kernel_rfl) (stop := 1000) 1000 _ ?_
        refine Good.cond true (by kernel_rfl) ?_
        refine Good.run (by kernel_rfl) (stop := 1000) 1000 _ ?_
        refine Good.callv (fun w1 hw h => example14_m (hM.below hw)) (by kernel_rfl) (fun u => ?_)
        refine Good.run (by kernel_rfl) (stop := 1000) 1000 _ ?_
        refine Good.ret (v := .bool true) (by kernel_rfl) (fun w1 hw h => ⟨(), rfl, hw, fun _ _ _ => trivial⟩)
      ·
        refine Good.slot 20 (.bool (decide ((l.length : Int) > 70000))) (.bool false) (by kernel_rfl) (by simp; omega) ?_
        refine Good.run (by kernel_rfl) (stop := 1000) 1000 _ ?_
        refine Good.cond false (by kernel_rfl) ?_
        refine Good.run (by kernel_rfl) (stop := 1000) 1000 _ ?_
        refine Good.callv (fun w1 hw h => pparse_m (l := l) (hM.below hw) (by omega) hR) (by kernel_rfl) (fun y => ?_)
        refine Good.run (by kernel_rfl) (stop := 1000) 1000 _ ?_
        refine Good.callv (fun w1 hw h => pparseR_m (l := l) (by omega) hR) (by kernel_rfl) (fun y2 => ?_)
        refine Good.run (by kernel_rfl) (stop := 1000) 1000 _ ?_
        refine Good.callv (fun w1 hw h => requal_m (A := y.1) (n := out.length) (c := y.2) (ls := out) (A2 := y2.1) (n2 := out.length) (c2 := y2.2) (ms := out) (B := true) h.1.2 h.2 hol (by simp)) (by kernel_rfl) (fun u3 => ?_)
        refine Good.run (by kernel_rfl) (stop := 7) 1000 _ ?_
        refine Good.slot 41 (.bool ((at_ : Int) == (at_ : Int))) (.bool true) (by kernel_rfl) (by simp) ?_
        refine Good.run (by kernel_rfl) (stop := 12) 1000 _ ?_
        refine Good.slot 46 (.bool (e == e)) (.bool true) (by kernel_rfl) (by simp) ?_
        refine Good.run (by kernel_rfl) (stop := 1000) 1000 _ ?_
        refine Good.callv (fun w1 hw h => example14_m (hM.below hw)) (by kernel_rfl) (fun u4 => ?_)
        refine Good.run (by kernel_rfl) (stop := 1000) 1000 _ ?_
        refine Good.ret (v := .bool true) (by kernel_rfl) (fun w1 hw h => ⟨(), rfl, hw, fun _ _ _ => trivial⟩)
  ·
    refine Good.slot 11 (.bool (decide ((l.length : Int) > 6000))) (.bool false) (by kernel_rfl) (by simp; omega) ?_
    refine Good.run (by kernel_rfl) (stop := 12) 1000 _ ?_
    refine Good.slot 20 (.bool (decide ((l.length : Int) > 70000))) (.bool false) (by kernel_rfl) (by simp; omega) ?_
    refine Good.run (by kernel_rfl) (stop := 1000) 1000 _ ?_
    refine Good.cond false (by kernel_rfl) ?_
    refine Good.run (by kernel_rfl) (stop := 1000) 1000 _ ?_
    refine Good.callv (fun w1 hw h => pparse_m (l := l) (hM.below hw) (by omega) hR) (by kernel_rfl) (fun y => ?_)
    refine Good.run (by kernel_rfl) (stop := 1000) 1000 _ ?_
    refine Good.callv (fun w1 hw h => pparseR_m (l := l) (by omega) hR) (by kernel_rfl) (fun y2 => ?_)
    refine Good.run (by kernel_rfl) (stop := 1000) 1000 _ ?_
    refine Good.callv (fun w1 hw h => requal_m (A := y.1) (n := out.length) (c := y.2) (ls := out) (A2 := y2.1) (n2 := out.length) (c2 := y2.2) (ms := out) (B := true) h.1.2 h.2 hol (by simp)) (by kernel_rfl) (fun u3 => ?_)
    refine Good.run (by kernel_rfl) (stop := 7) 1000 _ ?_
    refine Good.slot 41 (.bool ((at_ : Int) == (at_ : Int))) (.bool true) (by kernel_rfl) (by simp) ?_
    refine Good.run (by kernel_rfl) (stop := 12) 1000 _ ?_
    refine Good.slot 46 (.bool (e == e)) (.bool true) (by kernel_rfl) (by simp) ?_
    refine Good.run (by kernel_rfl) (stop := 1000) 1000 _ ?_
    refine Good.callv (fun w1 hw h => example14_m (hM.below hw)) (by kernel_rfl) (fun u4 => ?_)
    refine Good.run (by kernel_rfl) (stop := 1000) 1000 _ ?_
    refine Good.ret (v := .bool true) (by kernel_rfl) (fun w1 hw h => ⟨(), rfl, hw, fun _ _ _ => trivial⟩)
set_option maxRecDepth 100000 in
set_option maxHeartbeats 4000000 in
theorem lawRound (hM : ML w) (hs : SgAt w A n ls) : Calls Tryd.prog 5 #[.slice A n c, strOf l] w (CallPost w (fun _ : Unit => .bool true) fun _ _ => True) := by
  refine Good.enter Tryd.func5 rfl ?_
  refine Good.run (by kernel_rfl) (stop := 3) 1000 _ ?_
  obtain ⟨out, at_, e, hR⟩ : ∃ out at_ e, parseP l = (out, at_, e) := ⟨_, _, _, rfl⟩
  by_cases h1 : n > 400
  ·
    refine Good.slot 17 (.bool (decide ((n : Int) > 400))) (.bool true) (by kernel_rfl) (by simp; omega) ?_
    refine Good.run (by kernel_rfl) (stop := 1000) 1000 _ ?_
    refine Good.cond true (by kernel_rfl) ?_
    refine Good.run (by kernel_rfl) (stop := 1000) 1000 _ ?_
    refine Good.callv (fun w1 hw h => example14_m (hM.below hw)) (by kernel_rfl) (fun u => ?_)
    refine Good.run (by kernel_rfl) (stop := 1000) 1000 _ ?_
    refine Good.ret (v := .bool true) (by kernel_rfl) (fun w1 hw h => ⟨(), rfl, hw, fun _ _ _ => trivial⟩)
  refine Good.slot 17 (.bool (decide ((n : Int) > 400))) (.bool false) (by kernel_rfl) (by simp; omega) ?_
  refine Good.run (by kernel_rfl) (stop := 7) 1000 _ ?_
  by_cases h2 : l.length > 6000
  ·
    refine Good.slot 21 (.bool (decide ((l.length : Int) > 6000))) (.bool true) (by kernel_rfl) (by simp; omega) ?_
    refine Good.run (by kernel_rfl) (stop := 1000) 1000 _ ?_
    refine Good.cond true (by kernel_rfl) ?_
    refine Good.run (by kernel_rfl) (stop := 1000) 1000 _ ?_
    refine Good.callv (fun w1 hw h => example14_m (hM.below hw)) (by kernel_rfl) (fun u => ?_)
    refine Good.run (by kernel_rfl) (stop := 1000) 1000 _ ?_
    refine Good.ret (v := .bool true) (by kernel_rfl) (fun w1 hw h => ⟨(), rfl, hw, fun _ _ _ => trivial⟩)
  refine Good.slot 21 (.bool (decide ((l.length : Int) > 6000))) (.bool false) (by kernel_rfl) (by simp; omega) ?_
  refine Good.run (by kernel_rfl) (stop := 1000) 1000 _ ?_
  refine Good.cond false (by kernel_rfl) ?_
  refine Good.run (by kernel_rfl) (stop := 1000) 1000 _ ?_
  cases hok : okPath ls with
  | true =>
    have hf : fmtR ls = (fmtP ls, 0) := if_pos hok
    obtain ⟨hg, hsm⟩ := good_path hok
    have hfl := fmtP_len hg
    have hln := hs.1
    refine Good.callv (fun w1 hw h => pformat_m (A := A) (n := n) (c := c) (hs.below hw) (by omega) hf) (by kernel_rfl) (fun u => ?_)
    refine Good.run (by kernel_rfl) (stop := 1000) 1000 _ ?_
    refine Good.cond true (by kernel_rfl) ?_
    refine Good.run (by kernel_rfl) (stop := 1000) 1000 _ ?_
    refine Good.callv (fun w1 hw h => pparse_m (l := fmtP ls) (hM.below hw) (by omega) (parse_fmtP hok)) (by kernel_rfl) (fun y => ?_)
    refine Good.run (by kernel_rfl) (stop := 1000) 1000 _ ?_
    refine Good.callv (fun w1 hw h => requal_m (A := y.1) (n := ls.length) (c := y.2) (ls := ls) (A2 := A) (n2 := n) (c2 := c) (ms := ls) (B := true) h.2 (hs.below hw) (by omega) (by simp)) (by kernel_rfl) (fun u3 => ?_)
    refine Good.run (by kernel_rfl) (stop := 1000) 1000 _ ?_
    refine Good.cond false (by kernel_rfl) ?_
    refine Good.run (by kernel_rfl) (stop := 1000) 1000 _ ?_
    refine Good.callv (fun w1 hw h => pparse_m (l := l) (hM.below hw) (by omega) hR) (by kernel_rfl) (fun z => ?_)
    refine Good.run (by kernel_rfl) (stop := 1000) 1000 _ ?_
    rcases parse_back hR with ⟨he, rfl⟩ | ⟨rfl, rfl, hok2, hfm⟩
    ·
      refine Good.condr ((e != 0)) true (by kernel_rfl) (by simpa using he) ?_
      refine Good.run (by kernel_rfl) (stop := 6) 1000 _ ?_
      refine Good.slot 62 (.bool (decide ((at_ : Int) ≥ 0))) (.bool true) (by kernel_rfl) (by simp) ?_
      refine Good.run (by kernel_rfl) (stop := 1000) 1000 _ ?_
      refine Good.callv (fun w1 hw h => example14_m (hM.below hw)) (by kernel_rfl) (fun u4 => ?_)
      refine Good.run (by kernel_rfl) (stop := 1000) 1000 _ ?_
      refine Good.ret (v := .bool true) (by kernel_rfl) (fun w1 hw h => ⟨(), rfl, hw, fun _ _ _ => trivial⟩)
    · have hsm2 := (good_path hok2).2
      have hf2 : fmtR out = (l, 0) := by unfold fmtR; rw [if_pos hok2, hfm]
      refine Good.cond false (by kernel_rfl) ?_
      refine Good.run (by kernel_rfl) (stop := 1000) 1000 _ ?_
      refine Good.callv (fun w1 hw h => pformat_m (A := z.1) (n := out.length) (c := z.2) h.2 (by omega) hf2) (by kernel_rfl) (fun u5 => ?_)
      refine Good.run (by kernel_rfl) (stop := 1000) 7 _ ?_
      refine Good.run (by kernel_rfl) (stop := 5) 1000 _ ?_
      refine Good.ask (opS .eql 9 (.tmp 75) (.tmp 76) (strOf l) (strOf l)) (.bool true) (by kernel_rfl) (fun w1 hw h => run_eqS (by simp)) ?_
      refine Good.run (by kernel_rfl) (stop := 1000) 1000 _ ?_
      refine Good.callv (fun w1 hw h => example14_m (hM.below hw)) (by kernel_rfl) (fun u6 => ?_)
      refine Good.run (by kernel_rfl) (stop := 1000) 1000 _ ?_
      refine Good.ret (v := .bool true) (by kernel_rfl) (fun w1 hw h => ⟨(), rfl, hw, fun _ _ _ => trivial⟩)
  | false =>
    have hf : fmtR ls = ([], 10) := if_neg (by simp [hok])
    refine Good.callv (fun w1 hw h => pformat_m (A := A) (n := n) (c := c) (hs.below hw) (by omega) hf) (by kernel_rfl) (fun u => ?_)
    refine Good.run (by kernel_rfl) (stop := 1000) 1000 _ ?_
    refine Good.cond false (by kernel_rfl) ?_
    refine Good.run (by kernel_rfl) (stop := 1000) 1000 _ ?_
    refine Good.callv (fun w1 hw h => pparse_m (l := l) (hM.below hw) (by omega) hR) (by kernel_rfl) (fun z => ?_)
    refine Good.run (by kernel_rfl) (stop := 1000) 1000 _ ?_
    rcases parse_back hR with ⟨he, rfl⟩ | ⟨rfl, rfl, hok2, hfm⟩
    ·
      refine Good.condr ((e != 0)) true (by kernel_rfl) (by simpa using he) ?_
      refine Good.run (by kernel_rfl) (stop := 6) 1000 _ ?_
      refine Good.slot 62 (.bool (decide ((at_ : Int) ≥ 0))) (.bool true) (by kernel_rfl) (by simp) ?_
      refine Good.run (by kernel_rfl) (stop := 1000) 1000 _ ?_
      refine Good.callv (fun w1 hw h => example14_m (hM.below hw)) (by kernel_rfl) (fun u4 => ?_)
      refine Good.run (by kernel_rfl) (stop := 1000) 1000 _ ?_
      refine Good.ret (v := .bool true) (by kernel_rfl) (fun w1 hw h => ⟨(), rfl, hw, fun _ _ _ => trivial⟩)
    · have hsm2 := (good_path hok2).2
      have hf2 : fmtR out = (l, 0) := by unfold fmtR; rw [if_pos hok2, hfm]
      refine Good.cond false (by kernel_rfl) ?_
      refine Good.run (by kernel_rfl) (stop := 1000) 1000 _ ?_
      refine Good.callv (fun w1 hw h => pformat_m (A := z.1) (n := out.length) (c := z.2) h.2 (by omega) hf2) (by kernel_rfl) (fun u5 => ?_)
      refine Good.run (by kernel_rfl) (stop := 1000) 7 _ ?_
      refine Good.run (by kernel_rfl) (stop := 5) 1000 _ ?_
      refine Good.ask (opS .eql 9 (.tmp 75) (.tmp 76) (strOf l) (strOf l)) (.bool true) (by kernel_rfl) (fun w1 hw h => run_eqS (by simp)) ?_
      refine Good.run (by kernel_rfl) (stop := 1000) 1000 _ ?_
      refine Good.callv (fun w1 hw h => example14_m (hM.below hw)) (by kernel_rfl) (fun u6 => ?_)
      refine Good.run (by kernel_rfl) (stop := 1000) 1000 _ ?_
      refine Good.ret (v := .bool true) (by kernel_rfl) (fun w1 hw h => ⟨(), rfl, hw, fun _ _ _ => trivial⟩)
end

def shPt : Sh := .cons 1 (.int .i64) (.cons 1 (.int .i64) .nil)
def shSg : Sh := .cons 1 (.int .i64) (.cons 2 shPt (.cons 2 shPt (.cons 2 shPt .nil)))
section
variable {w : World} {A : Option Addr} {n c : Nat} {ls : List Sg}
theorem rd_int {k : IntKind} {a : List Value} (h : Rd w (.int k) a) : ∃ z, a = [.int k z] := by obtain ⟨z, h, _⟩ := h; exact ⟨z, h⟩
theorem rd_pt {a : List Value} (h : Rd w shPt a) : ∃ x y, a = [.int .i64 x, .int .i64 y] := by
  obtain ⟨a1, b1, rfl, _, h1, a2, b2, rfl, _, h2, h3⟩ := h
  obtain ⟨x, rfl⟩ := rd_int h1
  obtain ⟨y, rfl⟩ := rd_int h2
  have h3 : b2 = [] := h3
  subst h3
  exact ⟨x, y, rfl⟩
theorem rd_sg {a : List Value} (h : Rd w shSg a) : ∃ s : Sg, a = s.cl := by
  obtain ⟨a1, b1, rfl, _, h1, a2, b2, rfl, _, h2, a3, b3, rfl, _, h3, a4, b4, rfl, _, h4, h5⟩ := h
  obtain ⟨v, rfl⟩ := rd_int h1
  obtain ⟨ax, ay, rfl⟩ := rd_pt h2
  obtain ⟨bx, by_, rfl⟩ := rd_pt h3
  obtain ⟨cx, cy, rfl⟩ := rd_pt h4
  have h5 : b4 = [] := h5
  subst h5
  exact ⟨⟨v, ax, ay, bx, by_, cx, cy⟩, rfl⟩
theorem sg_of_rd (h : Rd w (.sl 7 shSg) [.slice A n c]) : ∃ ls, SgAt w A n ls := by
  obtain ⟨A', len, cap, e, h1, h2, h3⟩ := h
  simp only [List.cons.injEq, Value.slice.injEq, and_true] at e
  obtain ⟨rfl, rfl, rfl⟩ := e
  have key : ∀ j, j ≤ n → ∃ ls : List Sg, ls.length = j ∧ ∀ (k : Nat) (s : Sg), ls[k]? = some s → ∃ ad, A = some ad ∧ ∀ (i : Nat) (v : Value), s.cl[i]? = some v → w.cell? ((ad.add (k * 7)).add i) = some v := by
    intro j
    induction j with
    | zero => exact fun _ => ⟨[], rfl, fun k s h => by simp at h⟩
    | succ j ih =>
      intro hj
      obtain ⟨ls, k1, k2⟩ := ih (by omega)
      obtain ⟨ad, xs, hA, hx, hc, hr⟩ := h3 j (by omega)
      obtain ⟨s, rfl⟩ := rd_sg hr
      refine ⟨ls ++ [s], by simp [k1], fun k u hu => ?_⟩
      rcases Nat.lt_or_ge k j with hlt | hge
      · rw [List.getElem?_append_left (by omega)] at hu
        exact k2 k u hu
      · have hu' := (List.getElem?_eq_some_iff.1 hu).1
        simp only [List.length_append, List.length_singleton] at hu'
        obtain rfl : k = j := by omega
        rw [List.getElem?_append_right (by omega), k1, Nat.sub_self] at hu
        cases hu
        exact ⟨ad, hA, hc⟩
  obtain ⟨ls, k1, k2⟩ := key n (Nat.le_refl _)
  exact ⟨ls, k1, k2⟩
theorem rowFormat (hM : ML w) (i : Rd w (.sl 7 shSg) [.slice A n c]) : Calls Tryd.prog 3 #[.slice A n c] w (Done w) := by
  obtain ⟨ls, hs⟩ := sg_of_rd i
  exact (lawFormat hM hs).mono fun _ _ h => law_done h
theorem rowParse {s : ByteArray} (hM : ML w) : Calls Tryd.prog 4 #[.string s] w (Done w) := (lawParse (l := s.data.toList) hM).mono fun _ _ h => law_done h
theorem rowRound {s : ByteArray} (hM : ML w) (i : Rd w (.sl 7 shSg) [.slice A n c]) : Calls Tryd.prog 5 #[.slice A n c, .string s] w (Done w) := by
  obtain ⟨ls, hs⟩ := sg_of_rd i
  exact (lawRound (l := s.data.toList) hM hs).mono fun _ _ h => law_done h
end

/-- Where the words end. -/
def endsE : Nat → List UInt8 → List Nat
  | i, [] => [i]
  | i, b :: l => if b = 32 then i :: endsE (i + 1) l else endsE (i + 1) l
def ends (l : List UInt8) : List Nat := if l = [] then [] else endsE 0 l
theorem endsE_one : ∀ {x : List UInt8} {i : Nat}, (32 : UInt8) ∉ x → endsE i x = [i + x.length]
  | [], i, _ => rfl
  | b :: x, i, h => by
    have hb : b ≠ 32 := fun e => h (by simp [e])
    rw [endsE, if_neg hb, endsE_one fun k => h (by simp [k]), List.length_cons]
    congr 1; omega
theorem endsE_app : ∀ {x : List UInt8} {i : Nat} {l : List UInt8}, (32 : UInt8) ∉ x → endsE i (x ++ 32 :: l) = (i + x.length) :: endsE (i + x.length + 1) l
  | [], i, l, _ => by simp [endsE]
  | b :: x, i, l, h => by
    have hb : b ≠ 32 := fun e => h (by simp [e])
    show endsE i (b :: (x ++ 32 :: l)) = _
    rw [endsE, if_neg hb, endsE_app fun k => h (by simp [k]), List.length_cons]
    rw [show i + 1 + x.length = i + (x.length + 1) by omega]
theorem ends_join : ∀ {ws : List (List UInt8)} {i : Nat}, ws ≠ [] → (∀ x ∈ ws, (32 : UInt8) ∉ x) → (endsE i (joinBy 32 ws)).length = ws.length ∧ ∀ k, k < ws.length → (endsE i (joinBy 32 ws))[k]? = some (i + (joinBy 32 (ws.take (k + 1))).length)
  | [], i, h, _ => absurd rfl h
  | [x], i, _, h => by
    have hx := h x (by simp)
    show (endsE i x).length = 1 ∧ _
    rw [endsE_one hx]
    refine ⟨rfl, fun k hk => ?_⟩
    obtain rfl : k = 0 := by simpa using hk
    show (endsE i x)[0]? = some (i + x.length)
    rw [endsE_one hx]; rfl
  | x :: y :: ws, i, _, h => by
    have hx := h x (by simp)
    obtain ⟨ih1, ih2⟩ := ends_join (ws := y :: ws) (i := i + x.length + 1) (by simp) fun z hz => h z (by simp [hz])
    have e : endsE i (joinBy 32 (x :: y :: ws)) = (i + x.length) :: endsE (i + x.length + 1) (joinBy 32 (y :: ws)) := endsE_app hx
    rw [e]
    refine ⟨by rw [List.length_cons, ih1]; rfl, fun k hk => ?_⟩
    cases k with
    | zero => rfl
    | succ k =>
      rw [List.getElem?_cons_succ, ih2 k (by simp at hk ⊢; omega)]
      have e2 : joinBy 32 ((x :: y :: ws).take (k + 1 + 1)) = x ++ 32 :: joinBy 32 ((y :: ws).take (k + 1)) := rfl
      rw [e2, List.length_append, List.length_cons]
      congr 1; omega
theorem ends_words {ws : List (List UInt8)} (h0 : ws ≠ []) (h : ∀ x ∈ ws, (32 : UInt8) ∉ x ∧ x ≠ []) : (ends (joinBy 32 ws)).length = ws.length ∧ ∀ k, k < ws.length → (ends (joinBy 32 ws))[k]? = some (joinBy 32 (ws.take (k + 1))).length := by
  unfold ends
  rw [if_neg (joinBy_ne h0 fun x hx => (h x hx).2)]
  obtain ⟨h1, h2⟩ := ends_join (i := 0) h0 fun x hx => (h x hx).1
  refine ⟨h1, fun k hk => ?_⟩
  rw [h2 k hk, Nat.zero_add]
theorem join_split3 {ws : List (List UInt8)} {k : Nat} {x : List UInt8} (h : ws[k]? = some x) : joinBy 32 ws = joinBy 32 (ws.take k) ++ sepB k ++ x ++ glue (ws.drop (k + 1)) := by
  have hlt := (List.getElem?_eq_some_iff.1 h).1
  have e : ws = ws.take k ++ x :: ws.drop (k + 1) := by
    obtain ⟨h1, h2⟩ := List.getElem?_eq_some_iff.1 h
    rw [← h2, ← List.drop_eq_getElem_cons h1, List.take_append_drop]
  conv => lhs; rw [e]
  refine fmtP_snoc ?_
  constructor
  · intro h1
    have := congrArg List.length h1
    rw [List.length_take, List.length_nil] at this
    omega
  · rintro rfl; rfl
theorem join_take1 {ws : List (List UInt8)} {k : Nat} {x : List UInt8} (h : ws[k]? = some x) : joinBy 32 (ws.take (k + 1)) = joinBy 32 (ws.take k) ++ sepB k ++ x := by
  have hlt := (List.getElem?_eq_some_iff.1 h).1
  have h2 : (ws.take (k + 1))[k]? = some x := by rw [List.getElem?_take, if_pos (by omega)]; exact h
  rw [join_split3 h2, List.take_take, show min k (k + 1) = k by omega, List.drop_of_length_le (by rw [List.length_take]; omega)]
  simp [glue]
theorem take_app {α : Type} (a b : List α) : (a ++ b).take a.length = a := by simp
theorem drop_app {α : Type} (a b : List α) : (a ++ b).drop a.length = b := by simp
/-- The text of the first words. -/
theorem text_take {ws : List (List UInt8)} {k : Nat} (hk : k < ws.length) : (joinBy 32 ws).take (joinBy 32 (ws.take (k + 1))).length = joinBy 32 (ws.take (k + 1)) := by
  obtain ⟨x, hx⟩ : ∃ x, ws[k]? = some x := ⟨_, List.getElem?_eq_getElem hk⟩
  rw [join_take1 hx]
  conv => lhs; rw [join_split3 hx]
  exact take_app _ _
/-- The text with one word replaced. -/
theorem text_set {ws : List (List UInt8)} {k : Nat} {x z : List UInt8} (hx : ws[k]? = some x) : joinBy 32 (ws.set k z) = (joinBy 32 ws).take (joinBy 32 (ws.take k) ++ sepB k).length ++ z ++ (joinBy 32 ws).drop (joinBy 32 (ws.take (k + 1))).length := by
  have hlt := (List.getElem?_eq_some_iff.1 hx).1
  have h1 : (ws.set k z)[k]? = some z := List.getElem?_set_self hlt
  rw [join_split3 h1, join_take1 hx]
  conv => rhs; rw [join_split3 hx]
  have e1 : (joinBy 32 (ws.take k) ++ sepB k ++ x ++ glue (ws.drop (k + 1))).take (joinBy 32 (ws.take k) ++ sepB k).length = joinBy 32 (ws.take k) ++ sepB k := by
    rw [List.append_assoc (joinBy 32 (ws.take k) ++ sepB k)]; exact take_app _ _
  rw [e1, drop_app, List.take_set_of_le (Nat.le_refl k), List.drop_set_of_lt (Nat.lt_succ_self k)]
theorem chkL_take : ∀ {l : List Sg} {last : Int} {i : Nat} (j : Nat), (chkL last i l).1 = 0 → (chkL last i (l.take j)).1 = 0
  | [], last, i, j, h => by simp [chkL]
  | s :: l, last, i, 0, h => rfl
  | s :: l, last, i, j + 1, h => by
    rw [chkL] at h
    rw [List.take_succ_cons, chkL]
    split at h
    · rename_i h0
      rw [if_pos h0]
      exact chkL_take j h
    · rename_i h0; exact absurd h h0
theorem ok_take {l : List Sg} (j : Nat) (h : okPath l = true) : okPath (l.take j) = true := by
  have hs := (good_path h).2
  have h1 : (chk l).1 = 0 := of_decide_eq_true h
  unfold chk at h1
  rw [if_neg (by omega)] at h1
  unfold okPath chk
  rw [if_neg (by rw [List.length_take]; omega)]
  exact decide_eq_true (chkL_take j h1)
/-- The words of a segment that breaks off, or in which one is bad. -/
theorem parse_cut {pre rest part : List (List UInt8)} {s : Sg} {acc : List Sg} {q : Nat} (h : GoodS s) (hq : q < (segW s).length) (hp : ∀ t, t < q → (part ++ rest)[t]? = (segW s)[t]?) (h0 : 0 < q) (hb : numE (pre ++ (part ++ rest)) (pre.length + q) = 3) :
    parseW (pre ++ (part ++ rest)) pre.length acc = ([], pre.length + q, 3) := by
  obtain ⟨ws, hws⟩ : ∃ ws, ws = pre ++ (part ++ rest) := ⟨_, rfl⟩
  rw [← hws] at hb ⊢
  have hat : ∀ t, t < q → ws[pre.length + t]? = (segW s)[t]? := fun t ht => by rw [hws, get_mid, hp t ht]
  obtain ⟨hl, hm⟩ := good_nums h
  have hsl : (segW s).length = 1 + (nums s).length := by rw [segW_eq, List.length_cons]; omega
  have hx : ws[pre.length]? = some [letS s.v] := by have := hat 0 h0; rw [Nat.add_zero] at this; exact this
  obtain ⟨q, rfl⟩ : ∃ p, q = p + 1 := ⟨q - 1, by omega⟩
  have hf : failAt ws (2 * (namedI s.v).toNat) (pre.length + 1) = some (pre.length + 1 + q) := failAt_some (fun t ht => by
    have h1 := hat (t + 1) (by omega)
    rw [show pre.length + (t + 1) = pre.length + 1 + t by omega, segW_eq, List.getElem?_cons_succ] at h1
    have ht2 : t < (nums s).length := by omega
    obtain ⟨z, hz, hr⟩ := hm _ (List.getElem_mem ht2)
    rw [List.getElem?_eq_getElem ht2, hz] at h1
    exact (numE_fmt h1 hr).1) (by omega) (by rw [show pre.length + 1 + q = pre.length + (q + 1) by omega, hb]; decide)
  have hv0 : s.v ≠ 0 := by rcases h.1 with e | e | e | e | e <;> omega
  rw [pw_fail hx (letS_verb h.1) hv0 hf, show pre.length + 1 + q = pre.length + (q + 1) by omega, hb]
/-- Where a word lies. -/
theorem locate : ∀ {ls : List Sg} {k : Nat}, k < (wordsP ls).length → ∃ j s q, ls[j]? = some s ∧ k = (wordsP (ls.take j)).length + q ∧ q < (segW s).length ∧ wordsP ls = wordsP (ls.take j) ++ (segW s ++ wordsP (ls.drop (j + 1)))
  | [], k, h => absurd h (Nat.not_lt_zero _)
  | s :: ls, k, h => by
    have e : wordsP (s :: ls) = segW s ++ wordsP ls := by simp [wordsP]
    rcases Nat.lt_or_ge k (segW s).length with hk | hk
    · exact ⟨0, s, k, rfl, by simp [wordsP], hk, by simp [wordsP]⟩
    · rw [e, List.length_append] at h
      obtain ⟨j, t, q, h1, h2, h3, h4⟩ := locate (ls := ls) (k := k - (segW s).length) (by omega)
      refine ⟨j + 1, t, q, by simpa using h1, ?_, h3, ?_⟩
      · have e2 : wordsP ((s :: ls).take (j + 1)) = segW s ++ wordsP (ls.take j) := by simp [wordsP]
        rw [e2, List.length_append]; omega
      · have e2 : wordsP ((s :: ls).take (j + 1)) = segW s ++ wordsP (ls.take j) := by simp [wordsP]
        rw [e, h4, e2]; simp
theorem parse_pre {ls : List Sg} {j : Nat} {X : List (List UInt8)} (h : ∀ s ∈ ls, GoodS s) : parseW (wordsP (ls.take j) ++ X) 0 [] = parseW (wordsP (ls.take j) ++ X) (wordsP (ls.take j)).length (ls.take j) := by
  have h1 := parse_segs (ls := ls.take j) (acc := []) (pre := []) (rest := X) (mem_take h)
  simp only [List.nil_append, List.length_nil, Nat.zero_add] at h1
  exact h1
/-- A leading part of the words that ends inside a segment. -/
theorem parse_part {ls : List Sg} {j q : Nat} {s : Sg} (h : ∀ s ∈ ls, GoodS s) (hs : ls[j]? = some s) (hq : q < (segW s).length) (h0 : 0 < q) : parseW ((wordsP ls).take ((wordsP (ls.take j)).length + q)) 0 [] = ([], (wordsP (ls.take j)).length + q, 3) := by
  have hd : wordsP ls = wordsP (ls.take j) ++ (segW s ++ wordsP (ls.drop (j + 1))) := by
    obtain ⟨h1, h2⟩ := List.getElem?_eq_some_iff.1 hs
    have e : ls = ls.take j ++ s :: ls.drop (j + 1) := by rw [← h2, ← List.drop_eq_getElem_cons h1, List.take_append_drop]
    conv => lhs; rw [e]
    simp [wordsP]
  have e : (wordsP ls).take ((wordsP (ls.take j)).length + q) = wordsP (ls.take j) ++ ((segW s).take q ++ []) := by
    rw [hd, List.take_append, List.take_of_length_le (by omega), List.append_nil, show (wordsP (ls.take j)).length + q - (wordsP (ls.take j)).length = q by omega, List.take_append, show q - (segW s).length = 0 by omega, List.take_zero, List.append_nil]
  rw [e, parse_pre h]
  refine parse_cut (h s (List.mem_of_getElem? hs)) hq (fun t ht => by rw [List.append_nil, List.getElem?_take, if_pos ht]) h0 ?_
  have hn : (wordsP (ls.take j) ++ ((segW s).take q ++ []))[(wordsP (ls.take j)).length + q]? = none := List.getElem?_eq_none (by simp; omega)
  unfold numE
  rw [hn]
/-- One word is no word of a path. -/
theorem parse_set {ls : List Sg} {k : Nat} (h : ∀ s ∈ ls, GoodS s) (hk : k < (wordsP ls).length) : parseW ((wordsP ls).set k [120]) 0 [] = ([], k, 3) := by
  obtain ⟨j, s, q, hs, rfl, hq, hd⟩ := locate hk
  have e : (wordsP ls).set ((wordsP (ls.take j)).length + q) [120] = wordsP (ls.take j) ++ ((segW s).set q [120] ++ wordsP (ls.drop (j + 1))) := by
    rw [hd, List.set_append, if_neg (by omega), show (wordsP (ls.take j)).length + q - (wordsP (ls.take j)).length = q by omega, List.set_append, if_pos hq]
  have hx : (wordsP (ls.take j) ++ ((segW s).set q [120] ++ wordsP (ls.drop (j + 1))))[(wordsP (ls.take j)).length + q]? = some [120] := by
    rw [get_mid, List.getElem?_append_left (by rw [List.length_set]; exact hq), List.getElem?_set_self hq]
  rw [e, parse_pre h]
  cases q with
  | zero => rw [Nat.add_zero] at hx ⊢; exact pw_verb hx (by decide)
  | succ q =>
    refine parse_cut (h s (List.mem_of_getElem? hs)) hq (fun t ht => by rw [List.getElem?_append_left (by rw [List.length_set]; omega), List.getElem?_set_ne (by omega)]) (by omega) ?_
    unfold numE
    rw [hx]
    show wnE [120] = 3
    decide +kernel
theorem take_mem {ws : List (List UInt8)} (h : ∀ x ∈ ws, (32 : UInt8) ∉ x ∧ x ≠ []) (k : Nat) : ∀ x ∈ ws.take k, (32 : UInt8) ∉ x ∧ x ≠ [] := fun x hx => h x (List.mem_of_mem_take hx)
theorem set_mem {ws : List (List UInt8)} (h : ∀ x ∈ ws, (32 : UInt8) ∉ x ∧ x ≠ []) (k : Nat) : ∀ x ∈ ws.set k [120], (32 : UInt8) ∉ x ∧ x ≠ [] := fun x hx => by
  rcases List.mem_or_eq_of_mem_set hx with hx | rfl
  · exact h x hx
  · exact ⟨by decide, by simp⟩
theorem parseP_join {ws : List (List UInt8)} (h : ∀ x ∈ ws, (32 : UInt8) ∉ x ∧ x ≠ []) (hl : (joinBy 32 ws).length ≤ 65536) : parseP (joinBy 32 ws) = parseW ws 0 [] := by
  unfold parseP
  rw [if_neg (by omega), words_joinP h]

def nvals (p : List Nat) : List Value := p.map fun (k : Nat) => Value.int .i64 (k : Int)
theorem nvals_get {p : List Nat} {k v : Nat} (h : p[k]? = some v) : (nvals p)[k]? = some (.int .i64 (v : Int)) := by
  unfold nvals; rw [List.getElem?_map, h]; rfl
section
variable {w : World} {A y : Option Addr} {n c m yc : Nat} {p : List Nat} {l : List UInt8} {ls : List Sg}
theorem app_int {B : Nat} {gb k : Nat} (ho : OwnR w B 3 1 y m yc (nvals p)) (hB : B ≤ w.heap.size) (hg : litG 3 #[.int .i64 (k : Int)] gb w) (hm : m < 100000000) :
    MutRun Tryd.prog w (bl y) (fun z : Option Addr × Nat => .slice z.1 (m + 1) z.2) (fun z v => OwnR v B 3 1 z.1 (m + 1) z.2 (nvals (p ++ [k]))) (appS 33 33 (.slice y m yc) (litV 1 gb)) := by
  have ha := appendR_m (P := Tryd.prog) (s := 1) (z := .int .i64 0) (bytes := 8) (m := 1) (cc := 1) (t := 33) (elem := 3) (by kernel_rfl) (by kernel_rfl) rfl (by decide) ho hB (litG_reads (n := 1) hg rfl) (by intro v hv; simp at hv; rcases hv with rfl; rfl) (by omega) (by decide)
  have e : nvals (p ++ [k]) = nvals p ++ [.int .i64 (k : Int)] := by simp [nvals]
  rw [e]; exact ha
theorem endsE_at {i : Nat} {b : UInt8} (h : l[i]? = some b) : endsE i (l.drop i) = if b = 32 then i :: endsE (i + 1) (l.drop (i + 1)) else endsE (i + 1) (l.drop (i + 1)) := by
  rw [drop_at h]; rfl
set_option maxRecDepth 100000 in
set_option maxHeartbeats 2000000 in
theorem words_m {B : Nat} (hB : B ≤ w.heap.size) (hBw : w.heap.size ≤ B) (hl : l.length ≤ 70000) : Calls Tryd.prog 14 #[strOf l] w (CallPost w (fun y : Option Addr × Nat => .slice y.1 (ends l).length y.2) fun y u => OwnR u B 3 1 y.1 (ends l).length y.2 (nvals (ends l))) := by
  by_cases h0 : l = []
  · subst h0
    refine Good.enter Tryd.func14 rfl ?_
    refine Good.run (by kernel_rfl) (stop := 1000) 1000 _ ?_
    refine Good.un (by kernel_rfl) ?_
    refine Good.run (by kernel_rfl) (stop := 1000) 1000 _ ?_
    refine Good.cond true (by kernel_rfl) ?_
    refine Good.run (by kernel_rfl) (stop := 1000) 1000 _ ?_
    refine Good.cond false (by kernel_rfl) ?_
    refine Good.run (by kernel_rfl) (stop := 1000) 1000 _ ?_
    refine Good.cond false (by kernel_rfl) ?_
    refine Good.run (by kernel_rfl) (stop := 1000) 1000 _ ?_
    refine Good.ret (v := .slice none 0 0) (by kernel_rfl) (fun w1 hw h => ⟨(none, 0), rfl, hw, fun _ _ _ => OwnR.nil_⟩)
  have hw0 : ends l = endsE 0 l := if_neg h0
  have hpos : 0 < l.length := List.length_pos_iff.2 h0
  rw [hw0]
  refine Good.enter Tryd.func14 rfl ?_
  refine Good.run (by kernel_rfl) (stop := 1000) 1000 _ ?_
  refine Good.loop (ι := {q : (Nat × Nat × List Nat) × (Option Addr × Nat) // q.1.1 ≤ l.length + 1 ∧ q.1.2.2.length = q.1.2.1 ∧ q.1.2.1 ≤ q.1.1 ∧ (q.1.1 ≤ l.length → endsE 0 l = q.1.2.2 ++ endsE q.1.1 (l.drop q.1.1)) ∧ (l.length < q.1.1 → endsE 0 l = q.1.2.2)}) 31 (fun q => ⟨[(0, .v (strOf l)), (3, .v (.slice q.1.2.1 q.1.1.2.1 q.1.2.2)), (4, .v (.int .i64 q.1.1.1))], []⟩) (fun q u => OwnR u B 3 1 q.1.2.1 q.1.1.2.1 q.1.2.2 (nvals q.1.1.2.2)) (fun q => l.length + 1 - q.1.1.1) (⟨((0, 0, []), (none, 0)), Nat.zero_le _, rfl, Nat.le_refl _, fun _ => rfl, fun h => absurd h (Nat.not_lt_zero _)⟩) (by kernel_rfl) (fun _ => by kernel_rfl) ⟨by kernel_rfl, by kernel_rfl, by kernel_rfl⟩ (fun u h => OwnR.nil_) ?_
  rintro ⟨⟨⟨i, m, p⟩, y, yc⟩, hk⟩ g
  have hk1 : i ≤ l.length + 1 := hk.1
  have hk3 : p.length = m := hk.2.1
  have hk4 : m ≤ i := hk.2.2.1
  by_cases hlt : i ≤ l.length
  case neg =>
    have hk5 : endsE 0 l = p := hk.2.2.2.2 (show l.length < i from by omega)
    refine Good.run (by kernel_rfl) (stop := 1000) 1000 _ ?_
    refine Good.condr (decide ((i : Int) ≤ (l.length : Int))) false (by kernel_rfl) (by simp; omega) ?_
    refine Good.run (by kernel_rfl) (stop := 1000) 1000 _ ?_
    refine Good.leave (by kernel_rfl) ?_
    refine Good.run (by kernel_rfl) (stop := 1000) 1000 _ ?_
    refine Good.ret (v := .slice y m yc) (by kernel_rfl) (fun w1 hw h => ⟨(y, yc), by rw [hk5, hk3], hw, fun w'' k1 k2 => by rw [hk5, hk3]; exact h w'' k1 k2⟩)
  have hk5 : endsE 0 l = p ++ endsE i (l.drop i) := hk.2.2.2.1 hlt
  refine Good.run (by kernel_rfl) (stop := 1000) 1000 _ ?_
  refine Good.condr (decide ((i : Int) ≤ (l.length : Int))) true (by kernel_rfl) (by simp; omega) ?_
  refine Good.run (by kernel_rfl) (stop := 3) 1000 _ ?_
  refine Good.slot 13 (.bool (decide ((l.length : Int) > 0))) (.bool true) (by kernel_rfl) (by simp; omega) ?_
  refine Good.run (by kernel_rfl) (stop := 8) 1000 _ ?_
  by_cases hend : i = l.length
  · subst hend
    have hsp : endsE 0 l = p ++ [l.length] := by rw [hk5, List.drop_length]; rfl
    refine Good.slot 18 (.bool ((l.length : Int) == (l.length : Int))) (.bool true) (by kernel_rfl) (by simp) ?_
    refine Good.run (by kernel_rfl) (stop := 1000) 1000 _ ?_
    refine Good.cond true (by kernel_rfl) ?_
    refine Good.run (by kernel_rfl) (stop := 2) 1000 _ ?_
    refine Good.make (litS 33 1 #[(0, .int .i64 (l.length : Int))]) (litV 1) (litG 3 #[.int .i64 (l.length : Int)]) (by kernel_rfl) (fun w1 hw h => make_lit (by kernel_rfl)) (fun gb => ?_)
    refine Good.run (by kernel_rfl) (stop := 3) 1000 _ ?_
    refine Good.mutOp (L := bl y) (val := fun (z : Option Addr × Nat) => .slice z.1 (m + 1) z.2) (Φ' := fun (z : Option Addr × Nat) vv => OwnR vv B 3 1 z.1 (m + 1) z.2 (nvals (p ++ [l.length]))) (G := fun (z : Option Addr × Nat) vv => OwnR vv B 3 1 z.1 (m + 1) z.2 (nvals (p ++ [l.length]))) (appS 33 33 (.slice y m yc) (litV 1 gb)) (fun w1 hw h => app_int (show OwnR w1 B 3 1 y m yc (nvals (p)) from h.1) (Nat.le_trans hB hw.size) h.2 (show m < 100000000 from by omega)) (fun w1 h => fun b hb => ⟨Nat.le_trans hBw ((show OwnR w1 B 3 1 y m yc (nvals (p)) from h.1).lt b hb).1, ((show OwnR w1 B 3 1 y m yc (nvals (p)) from h.1).blk b hb).2⟩) (fun z wa w1 e1 e2 h hG => hG) (by kernel_rfl) (by kernel_rfl) (fun z => ?_)
    refine Good.run (by kernel_rfl) (stop := 1000) 1000 _ ?_
    refine Good.slot 4 (.int .i64 (IntKind.i64.wrap ((l.length : Int) + 1))) (.int .i64 ((l.length + 1 : Nat) : Int)) (by kernel_rfl) (by rw [wrap_succ (n := l.length + 1) (by omega) (by omega)]) ?_
    refine Good.next (⟨((l.length + 1, m + 1, p ++ [l.length]), z), Nat.le_refl _, by simp [hk3], by show m + 1 ≤ l.length + 1; omega, fun h => absurd (show l.length + 1 ≤ l.length from h) (by omega), fun _ => hsp⟩) (by kernel_rfl) (by show l.length + 1 - (l.length + 1) < l.length + 1 - l.length; omega) ⟨by kernel_rfl, by kernel_rfl, by kernel_rfl⟩ (fun _ h => h)
  · obtain ⟨b, hb⟩ : ∃ b, l[i]? = some b := ⟨_, List.getElem?_eq_getElem (by omega)⟩
    have hst := endsE_at hb
    refine Good.slot 18 (.bool ((i : Int) == (l.length : Int))) (.bool false) (by kernel_rfl) (by simp; omega) ?_
    refine Good.run (by kernel_rfl) (stop := 11) 1000 _ ?_
    refine Good.ask (ixS 9 (strOf l) i) (.int .u8 b.toNat) (by kernel_rfl) (fun w1 hw h => run_ixP (by kernel_rfl) hb) ?_
    refine Good.run (by kernel_rfl) (stop := 1000) 1000 _ ?_
    by_cases hbc : b = 32
    · subst hbc
      rw [if_pos rfl] at hst
      refine Good.cond true (by kernel_rfl) ?_
      refine Good.run (by kernel_rfl) (stop := 2) 1000 _ ?_
      refine Good.make (litS 33 1 #[(0, .int .i64 (i : Int))]) (litV 1) (litG 3 #[.int .i64 (i : Int)]) (by kernel_rfl) (fun w1 hw h => make_lit (by kernel_rfl)) (fun gb => ?_)
      refine Good.run (by kernel_rfl) (stop := 3) 1000 _ ?_
      refine Good.mutOp (L := bl y) (val := fun (z : Option Addr × Nat) => .slice z.1 (m + 1) z.2) (Φ' := fun (z : Option Addr × Nat) vv => OwnR vv B 3 1 z.1 (m + 1) z.2 (nvals (p ++ [i]))) (G := fun (z : Option Addr × Nat) vv => OwnR vv B 3 1 z.1 (m + 1) z.2 (nvals (p ++ [i]))) (appS 33 33 (.slice y m yc) (litV 1 gb)) (fun w1 hw h => app_int (show OwnR w1 B 3 1 y m yc (nvals (p)) from h.1) (Nat.le_trans hB hw.size) h.2 (show m < 100000000 from by omega)) (fun w1 h => fun b hb => ⟨Nat.le_trans hBw ((show OwnR w1 B 3 1 y m yc (nvals (p)) from h.1).lt b hb).1, ((show OwnR w1 B 3 1 y m yc (nvals (p)) from h.1).blk b hb).2⟩) (fun z wa w1 e1 e2 h hG => hG) (by kernel_rfl) (by kernel_rfl) (fun z => ?_)
      refine Good.run (by kernel_rfl) (stop := 1000) 1000 _ ?_
      refine Good.slot 4 (.int .i64 (IntKind.i64.wrap ((i : Int) + 1))) (.int .i64 ((i + 1 : Nat) : Int)) (by kernel_rfl) (by rw [wrap_succ (n := l.length) (by omega) (by omega)]) ?_
      refine Good.next (⟨((i + 1, m + 1, p ++ [i]), z), by show i + 1 ≤ l.length + 1; omega, by simp [hk3], by show m + 1 ≤ i + 1; omega, fun _ => by show _ = (p ++ [i]) ++ endsE (i + 1) (l.drop (i + 1)); rw [hk5, hst]; simp, fun h => absurd (show l.length < i + 1 from h) (by omega)⟩) (by kernel_rfl) (by show l.length + 1 - (i + 1) < l.length + 1 - i; omega) ⟨by kernel_rfl, by kernel_rfl, by kernel_rfl⟩ (fun _ h => h)
    · rw [if_neg hbc] at hst
      refine Good.condr ((((b.toNat : Nat) : Int) == 32)) false (by kernel_rfl) (by rw [beq_eq_false_iff_ne]; intro e; exact hbc (UInt8.toNat_inj.1 (by show b.toNat = 32; omega))) ?_
      refine Good.run (by kernel_rfl) (stop := 1000) 1000 _ ?_
      refine Good.slot 4 (.int .i64 (IntKind.i64.wrap ((i : Int) + 1))) (.int .i64 ((i + 1 : Nat) : Int)) (by kernel_rfl) (by rw [wrap_succ (n := l.length) (by omega) (by omega)]) ?_
      refine Good.next (⟨((i + 1, m, p), (y, yc)), by show i + 1 ≤ l.length + 1; omega, hk3, by show m ≤ i + 1; omega, fun _ => by show _ = p ++ endsE (i + 1) (l.drop (i + 1)); rw [hk5, hst], fun h => absurd (show l.length < i + 1 from h) (by omega)⟩) (by kernel_rfl) (by show l.length + 1 - (i + 1) < l.length + 1 - i; omega) ⟨by kernel_rfl, by kernel_rfl, by kernel_rfl⟩ (fun _ h => h)
theorem OwnR.word {B : Nat} {k v : Nat} (h : OwnR w B 3 1 y m yc (nvals p)) (hk : p[k]? = some v) : ∃ g, y = some ⟨g, 0, none⟩ ∧ w.cell? ⟨g, k, none⟩ = some (.int .i64 (v : Int)) := by
  have hl := h.len
  have hkl := (List.getElem?_eq_some_iff.1 hk).1
  unfold nvals at hl
  rw [List.length_map] at hl
  obtain ⟨g, h1, h2⟩ := h.cells (by omega)
  exact ⟨g, h1, h2 k _ (nvals_get hk)⟩
theorem run_remS {t : TypeId} {x y : Operand} {a b : Nat} {k : IntKind} (hb : 0 < b) : (opS .rem t x y (.int k (a : Int)) (.int k (b : Int))).run Tryd.prog w = .ok (.value (.int k ((a % b : Nat) : Int))) w := by
  have h0 : ((b : Nat) : Int) ≠ 0 := by omega
  have h1 : ((a : Nat) : Int).tmod (b : Int) = ((a % b : Nat) : Int) := rfl
  simp only [opS, eqGuard_rem, Sem.run_bind, Sem.run_pure, Result.andThen_ok, binOp, Op.intDiv, ne_eq, not_true_eq_false, if_false, h0, h1]
theorem run_slG {P : Program} {t e : TypeId} {n c i s : Nat} (ht : P.underlying t = some (.slice e)) (he : P.elem t = e) (hs : sizeT P e = some s) (hi : i ≤ c) : (slH t (.slice A n c) i).run P w = .ok (.value (.slice (if c = 0 then A else A.map (·.add 0)) i c)) w := by
  have h1 := run_slice_h (P := P) w t A n c (by rw [he]; exact ht) .i64 i (by omega) (by omega)
  have h2 := run_sliceAt_slice (P := P) w t (.slice A n c) none (some (.int .i64 i)) none (by rw [he]; exact ht)
  simp only [slH, Sem.run_bind, h2, h1, he, run_sizeT hs, Result.andThen_ok, Sem.run_pure]
  simp [sliced]
theorem SgAt.upto {i : Nat} (h : SgAt w A n ls) (hi : i ≤ n) : SgAt w (if c = 0 then A else A.map (·.add 0)) i (ls.take i) := by
  refine ⟨by rw [List.length_take, h.1]; omega, fun k s hk => ?_⟩
  rw [List.getElem?_take] at hk
  split at hk
  · obtain ⟨ad, h1, h2⟩ := h.2 k s hk
    subst h1
    split
    · exact ⟨ad, rfl, h2⟩
    · exact ⟨ad.add 0, rfl, by simpa [Addr.add] using h2⟩
  · cases hk
end

theorem words_split (ls : List Sg) (j : Nat) : wordsP ls = wordsP (ls.take j) ++ wordsP (ls.drop j) := by
  unfold wordsP; rw [← List.flatMap_append, List.take_append_drop]
theorem words_mono (ls : List Sg) {a b : Nat} (h : a ≤ b) : (wordsP (ls.take a)).length ≤ (wordsP (ls.take b)).length := by
  have h1 := words_split (ls.take b) a
  rw [List.take_take, show min a b = a by omega] at h1
  rw [h1, List.length_append]; omega
theorem words_take (ls : List Sg) (j : Nat) : (wordsP ls).take (wordsP (ls.take j)).length = wordsP (ls.take j) := by
  conv => lhs; rw [words_split ls j]
  exact take_app _ _
theorem join_take_le {ws : List (List UInt8)} {k : Nat} (hk : k < ws.length) : (joinBy 32 (ws.take (k + 1))).length ≤ (joinBy 32 ws).length := by
  have h1 := congrArg List.length (text_take hk)
  rw [List.length_take] at h1
  omega
/-- What a leading part of the words is parsed as. -/
theorem prefix_plan {ls : List Sg} {K : Nat} (hok : okPath ls = true) (hK : K < (wordsP ls).length) : ∃ j, j < ls.length ∧ (wordsP (ls.take j)).length ≤ K ∧ K + 1 ≤ (wordsP (ls.take (j + 1))).length ∧
    ((K + 1 = (wordsP (ls.take (j + 1))).length ∧ parseP (joinBy 32 ((wordsP ls).take (K + 1))) = (ls.take (j + 1), 0, 0)) ∨ (K + 1 ≠ (wordsP (ls.take (j + 1))).length ∧ parseP (joinBy 32 ((wordsP ls).take (K + 1))) = ([], K + 1, 3))) := by
  obtain ⟨hg, hsm⟩ := good_path hok
  have hfl : (joinBy 32 (wordsP ls)).length ≤ 158 * ls.length := fmtP_len hg
  obtain ⟨j, s, q, hs, rfl, hq, hd⟩ := locate hK
  have hj := (List.getElem?_eq_some_iff.1 hs).1
  have hsn := congrArg List.length (wordsP_snoc hs)
  rw [List.length_append] at hsn
  refine ⟨j, hj, by omega, by omega, ?_⟩
  have htl := join_take_le hK
  by_cases he : q + 1 = (segW s).length
  · refine .inl ⟨by omega, ?_⟩
    rw [show (wordsP (ls.take j)).length + q + 1 = (wordsP (ls.take (j + 1))).length by omega, words_take]
    exact parse_fmtP (ok_take (j + 1) hok)
  · refine .inr ⟨by omega, ?_⟩
    rw [parseP_join (take_mem (wordsP_mem hg) _) (by omega)]
    exact parse_part (q := q + 1) hg hs (by omega) (by omega)
theorem segW_r {s : Sg} {r : Nat} (h : GoodS s) (hr : namedI s.v = (r : Int)) : (segW s).length = 1 + 2 * r := by
  have h1 := (good_nums h).1
  rw [segW_eq, List.length_cons, h1, hr, Int.toNat_natCast]; omega
theorem rem_nat {z : Int} : ∃ Z : Nat, IntKind.u64.wrap z = (Z : Int) := ⟨(IntKind.u64.wrap z).toNat, by
  have h : IntKind.u64.wrap z = z % 18446744073709551616 := IntKind.wrap_u64 z
  omega⟩
section
variable {w : World} {A y : Option Addr} {n c m yc : Nat} {l : List UInt8} {ls : List Sg}
theorem words_f {W : Nat} {E : List Nat} (hE : ends l = E) (hW : E.length = W) (h0 : 0 < W) (hl : l.length ≤ 70000) : Calls Tryd.prog 14 #[strOf l] w (CallPost w (fun y : Nat × Nat => .slice (some ⟨y.1, 0, none⟩) W y.2) fun y u => ∀ (k v : Nat), E[k]? = some v → u.cell? ⟨y.1, k, none⟩ = some (.int .i64 (v : Int))) := by
  subst hE hW
  refine (words_m (B := w.heap.size) (Nat.le_refl _) (Nat.le_refl _) hl).mono fun e w' k => ?_
  obtain ⟨y, h1, h2, h3⟩ := k
  have hown : OwnR w' w.heap.size 3 1 y.1 (ends l).length y.2 (nvals (ends l)) := h3 w' (Nat.le_refl _) fun _ _ _ => rfl
  obtain ⟨g, hg, _⟩ := hown.cells h0
  refine ⟨(g, y.2), by rw [h1]; show Ending.returned (.slice y.1 _ _) = _; rw [hg], h2, fun w'' k1 k2 k v hk => ?_⟩
  obtain ⟨g2, e2, hc⟩ := (h3 w'' k1 k2).word hk
  rw [hg] at e2
  cases e2
  exact hc
set_option maxRecDepth 100000 in
set_option maxHeartbeats 4000000 in
theorem lawPrefix {z : Int} (hM : ML w) (hs : SgAt w A n ls) (hnc : n ≤ c) : Calls Tryd.prog 6 #[.slice A n c, .int .i64 z] w (CallPost w (fun _ : Unit => .bool true) fun _ _ => True) := by
  refine Good.enter Tryd.func6 rfl ?_
  refine Good.run (by kernel_rfl) (stop := 1000) 1000 _ ?_
  by_cases hbig : n > 100
  ·
    refine Good.condr (decide ((n : Int) > 100)) true (by kernel_rfl) (by simp; omega) ?_
    refine Good.run (by kernel_rfl) (stop := 1000) 1000 _ ?_
    refine Good.callv (fun w1 hw h => example14_m (hM.below hw)) (by kernel_rfl) (fun u => ?_)
    refine Good.run (by kernel_rfl) (stop := 1000) 1000 _ ?_
    refine Good.ret (v := .bool true) (by kernel_rfl) (fun w1 hw h => ⟨(), rfl, hw, fun _ _ _ => trivial⟩)
  refine Good.condr (decide ((n : Int) > 100)) false (by kernel_rfl) (by simp; omega) ?_
  refine Good.run (by kernel_rfl) (stop := 1000) 1000 _ ?_
  have hln := hs.1
  cases hok : okPath ls with
  | false =>
    have hf : fmtR ls = ([], 10) := if_neg (by simp [hok])
    refine Good.callv (fun w1 hw h => pformat_m (A := A) (n := n) (c := c) (hs.below hw) (by omega) hf) (by kernel_rfl) (fun u => ?_)
    refine Good.run (by kernel_rfl) (stop := 1000) 1000 _ ?_
    refine Good.cond true (by kernel_rfl) ?_
    refine Good.run (by kernel_rfl) (stop := 1000) 1000 _ ?_
    refine Good.callv (fun w1 hw h => example14_m (hM.below hw)) (by kernel_rfl) (fun u4 => ?_)
    refine Good.run (by kernel_rfl) (stop := 1000) 1000 _ ?_
    refine Good.ret (v := .bool true) (by kernel_rfl) (fun w1 hw h => ⟨(), rfl, hw, fun _ _ _ => trivial⟩)
  | true =>
    have hf : fmtR ls = (fmtP ls, 0) := if_pos hok
    obtain ⟨hg, hsm⟩ := good_path hok
    have hfl := fmtP_len hg
    refine Good.callv (fun w1 hw h => pformat_m (A := A) (n := n) (c := c) (hs.below hw) (by omega) hf) (by kernel_rfl) (fun u => ?_)
    refine Good.run (by kernel_rfl) (stop := 1000) 7 _ ?_
    refine Good.run (by kernel_rfl) (stop := 6) 1000 _ ?_
    by_cases hn0 : n = 0
    ·
      refine Good.slot 28 (.bool ((n : Int) == 0)) (.bool true) (by kernel_rfl) (by simp; omega) ?_
      refine Good.run (by kernel_rfl) (stop := 1000) 1000 _ ?_
      refine Good.cond true (by kernel_rfl) ?_
      refine Good.run (by kernel_rfl) (stop := 1000) 1000 _ ?_
      refine Good.callv (fun w1 hw h => example14_m (hM.below hw)) (by kernel_rfl) (fun u4 => ?_)
      refine Good.run (by kernel_rfl) (stop := 1000) 1000 _ ?_
      refine Good.ret (v := .bool true) (by kernel_rfl) (fun w1 hw h => ⟨(), rfl, hw, fun _ _ _ => trivial⟩)
    refine Good.slot 28 (.bool ((n : Int) == 0)) (.bool false) (by kernel_rfl) (by simp; omega) ?_
    refine Good.run (by kernel_rfl) (stop := 1000) 1000 _ ?_
    refine Good.cond false (by kernel_rfl) ?_
    refine Good.run (by kernel_rfl) (stop := 1000) 1000 _ ?_
    have hne : wordsP ls ≠ [] := fun e => by
      rw [wordsP_nil] at e
      subst e
      exact hn0 (by simpa using hln.symm)
    have hmem := wordsP_mem hg
    obtain ⟨hE1, hE2⟩ := ends_words hne hmem
    obtain ⟨E, hE⟩ : ∃ E, E = ends (fmtP ls) := ⟨_, rfl⟩
    obtain ⟨W, hW⟩ : ∃ W, W = (wordsP ls).length := ⟨_, rfl⟩
    have hEl : E.length = W := by rw [hE, hW]; exact hE1
    have hW0 : 0 < W := by rw [hW]; exact List.length_pos_iff.2 hne
    have hWl : W ≤ 7 * n := by
      have := wordsP_len ls
      omega
    refine Good.callv (fun w1 hw h => words_f (l := fmtP ls) hE.symm hEl hW0 (by omega)) (by kernel_rfl) (fun y => ?_)
    refine Good.run (by kernel_rfl) (stop := 1000) 1000 _ ?_
    obtain ⟨Z, hZ⟩ := rem_nat (z := z)
    obtain ⟨K, hK⟩ : ∃ K, K = Z % W := ⟨_, rfl⟩
    have hKW : K < W := by rw [hK]; exact Nat.mod_lt _ hW0
    obtain ⟨T, hT⟩ : ∃ T, T = joinBy 32 ((wordsP ls).take (K + 1)) := ⟨_, rfl⟩
    have hEK : E[K]? = some T.length := by rw [hE, hT]; exact hE2 K (by omega)
    have hTl : T.length ≤ (fmtP ls).length := by rw [hT]; exact join_take_le (by omega)
    have hTt : (fmtP ls).take T.length = T := by rw [hT]; exact text_take (by omega)
    obtain ⟨j, hj, hj1, hj2, hpl⟩ := prefix_plan hok (show K < (wordsP ls).length by omega)
    rw [← hT] at hpl
    obtain ⟨J, hJ⟩ : ∃ J, J = j + 1 := ⟨_, rfl⟩
    rw [← hJ] at hj2 hpl
    refine Good.condr (((W : Int) == 0)) false (by kernel_rfl) (by simp; omega) ?_
    refine Good.run (by kernel_rfl) (stop := 2) 1000 _ ?_
    refine Good.slot 37 (.int .u64 (IntKind.u64.wrap z)) (.int .u64 (Z : Int)) (by kernel_rfl) (by rw [hZ]) ?_
    refine Good.run (by kernel_rfl) (stop := 5) 1000 _ ?_
    refine Good.slot 40 (.int .u64 (IntKind.u64.wrap (W : Int))) (.int .u64 (W : Int)) (by kernel_rfl) (by rw [IntWalk.u64_in _ (by omega)]) ?_
    refine Good.ask (opS .rem 35 (.tmp 37) (.tmp 40) (.int .u64 (Z : Int)) (.int .u64 (W : Int))) (.int .u64 (K : Int)) (by kernel_rfl) (fun w1 hw h => by rw [hK]; exact run_remS hW0) ?_
    refine Good.run (by kernel_rfl) (stop := 7) 1000 _ ?_
    refine Good.slot 42 (.int .i64 (IntKind.i64.wrap (K : Int))) (.int .i64 (K : Int)) (by kernel_rfl) (by rw [IntWalk.i64_in _ (by omega)]) ?_
    refine Good.run (by kernel_rfl) (stop := 8) 1000 _ ?_
    refine Good.slot 43 (.int .i64 (IntKind.i64.wrap (1 + (K : Int)))) (.int .i64 ((K + 1 : Nat) : Int)) (by kernel_rfl) (by rw [IntWalk.i64_in _ (by omega)]; congr 1; omega) ?_
    refine Good.run (by kernel_rfl) (stop := 4) 1000 _ ?_
    refine Good.slot 48 (.int .i64 (IntKind.i64.wrap (((K + 1 : Nat) : Int) - 1))) (.int .i64 (K : Int)) (by kernel_rfl) (by rw [IntWalk.i64_in _ (by omega)]; congr 1; omega) ?_
    refine Good.ask (idxS 33 (.slice (some ⟨y.1, 0, none⟩) W y.2) K) (.pointer (some ((⟨y.1, 0, none⟩ : Addr).add K))) (by kernel_rfl) (fun w1 hw h => run_idxS (elem := 3) (by kernel_rfl) (by kernel_rfl) hKW) ?_
    refine Good.run (by kernel_rfl) (stop := 5) 1000 _ ?_
    refine Good.ask (ldS 3 ((⟨y.1, 0, none⟩ : Addr).add K)) (.int .i64 (T.length : Int)) (by kernel_rfl) (fun w1 hw h => run_ldS (by kernel_rfl) (by have h1 := h.2 K T.length hEK; rw [Addr.add_mid, Nat.zero_add]; exact h1)) ?_
    refine Good.run (by kernel_rfl) (stop := 6) 1000 _ ?_
    refine Good.ask (toA 9 (strOf (fmtP ls)) (T.length : Int)) (strOf T) (by kernel_rfl) (fun w1 hw h => by have h1 := run_toA (P := Tryd.prog) (w := w1) (t := 9) (l := fmtP ls) (i := T.length) (by kernel_rfl) hTl; rw [hTt] at h1; exact h1) ?_
    refine Good.run (by kernel_rfl) (stop := 1000) 1000 _ ?_
    obtain ⟨out, at_, e, hR⟩ : ∃ out at_ e, parseP T = (out, at_, e) := ⟨_, _, _, rfl⟩
    refine Good.callv (fun w1 hw h => pparse_m (l := T) (hM.below hw) (by omega) hR) (by kernel_rfl) (fun y2 => ?_)
    refine Good.run (by kernel_rfl) (stop := 1000) 1000 _ ?_
    refine Good.loop (ι := {q : Nat // q ≤ J}) 111 (fun q => ⟨[(0, .v (.slice A n c)), (8, .v (.int .i64 ((K + 1 : Nat) : Int))), (9, .v (.slice y2.1 out.length y2.2)), (10, .v (.int .i64 at_)), (11, .v (.int .i64 e)), (12, .v (.int .i64 q.1)), (13, .v (.int .i64 (wordsP (ls.take q.1)).length))], []⟩) (fun q u => SgAt u y2.1 out.length out) (fun q => J - q.1) (⟨0, Nat.zero_le _⟩) (by kernel_rfl) (fun _ => by kernel_rfl) ⟨by kernel_rfl, by kernel_rfl, by kernel_rfl⟩ (fun u h => h.2) ?_
    rintro ⟨q, hq⟩ gg
    have hq : q ≤ J := hq
    have hqm : (wordsP (ls.take q)).length ≤ W := by rw [hW, words_split ls q, List.length_append]; omega
    by_cases hlt : q < J
    case neg =>
      obtain rfl : q = J := by omega
      refine Good.run (by kernel_rfl) (stop := 3) 1000 _ ?_
      refine Good.slot 58 (.bool (decide (((wordsP (ls.take q)).length : Int) < ((K + 1 : Nat) : Int)))) (.bool false) (by kernel_rfl) (by simp; omega) ?_
      refine Good.run (by kernel_rfl) (stop := 1000) 1000 _ ?_
      refine Good.cond false (by kernel_rfl) ?_
      refine Good.run (by kernel_rfl) (stop := 1000) 1000 _ ?_
      refine Good.leave (by kernel_rfl) ?_
      refine Good.run (by kernel_rfl) (stop := 1000) 1000 _ ?_
      rcases hpl with ⟨hk, hp⟩ | ⟨hk, hp⟩
      · rw [hp] at hR
        cases hR
        refine Good.condr ((((wordsP (ls.take q)).length : Int) == ((K + 1 : Nat) : Int))) true (by kernel_rfl) (by simp; omega) ?_
        refine Good.run (by kernel_rfl) (stop := 3) 1000 _ ?_
        obtain ⟨A2, hA2⟩ : ∃ A2 : Option Addr, A2 = if c = 0 then A else A.map (·.add 0) := ⟨_, rfl⟩
        have hup : ∀ w1 : World, Below w.heap.size w w1 → SgAt w1 A2 q (ls.take q) := fun w1 hw => by rw [hA2]; exact (hs.below hw).upto (by omega)
        obtain ⟨M, hMd⟩ : ∃ M, M = ls.take q := ⟨_, rfl⟩
        rw [← hMd] at hup
        have hMl : M.length ≤ 1000000 := by rw [hMd, List.length_take]; omega
        have heq : ∀ w1 : World, SgAt w1 y2.1 (ls.take q).length (ls.take q) → Below w.heap.size w w1 → Calls Tryd.prog 11 #[.slice y2.1 (ls.take q).length y2.2, .slice A2 q c] w1 (CallPost w1 (fun _ : Unit => .bool true) fun _ _ => True) := fun w1 h1 h2 => by
          rw [← hMd] at h1 ⊢
          exact requal_m h1 (hup w1 h2) hMl (by simp)
        refine Good.ask (slH 22 (.slice A n c) q) (.slice A2 q c) (by kernel_rfl) (fun w1 hw h => by rw [hA2]; exact run_slG (s := 7) (e := 41) (by kernel_rfl) (by kernel_rfl) (by kernel_rfl) (by omega)) ?_
        refine Good.run (by kernel_rfl) (stop := 1000) 1000 _ ?_
        refine Good.callv (fun w1 hw h => heq w1 h hw) (by kernel_rfl) (fun u3 => ?_)
        refine Good.run (by kernel_rfl) (stop := 1000) 1000 _ ?_
        refine Good.callv (fun w1 hw h => example14_m (hM.below hw)) (by kernel_rfl) (fun u4 => ?_)
        refine Good.run (by kernel_rfl) (stop := 1000) 1000 _ ?_
        refine Good.ret (v := .bool true) (by kernel_rfl) (fun w1 hw h => ⟨(), rfl, hw, fun _ _ _ => trivial⟩)
      · rw [hp] at hR
        cases hR
        refine Good.condr ((((wordsP (ls.take q)).length : Int) == ((K + 1 : Nat) : Int))) false (by kernel_rfl) (by simp; omega) ?_
        refine Good.run (by kernel_rfl) (stop := 7) 1000 _ ?_
        refine Good.slot 102 (.bool (((K + 1 : Nat) : Int) == ((K + 1 : Nat) : Int))) (.bool true) (by kernel_rfl) (by simp) ?_
        refine Good.run (by kernel_rfl) (stop := 1000) 1000 _ ?_
        refine Good.callv (fun w1 hw h => example14_m (hM.below hw)) (by kernel_rfl) (fun u4 => ?_)
        refine Good.run (by kernel_rfl) (stop := 1000) 1000 _ ?_
        refine Good.ret (v := .bool true) (by kernel_rfl) (fun w1 hw h => ⟨(), rfl, hw, fun _ _ _ => trivial⟩)
    have hmono := words_mono ls (show q ≤ j by omega)
    obtain ⟨s, hsk⟩ : ∃ s, ls[q]? = some s := ⟨_, List.getElem?_eq_getElem (by omega)⟩
    obtain ⟨ad, hA, hc⟩ := hs.2 q s hsk
    have hgs := hg s (List.mem_of_getElem? hsk)
    obtain ⟨r, hr, hr3⟩ := named_good hgs.1
    have hsr := segW_r hgs hr
    have hsn := congrArg List.length (wordsP_snoc hsk)
    rw [List.length_append, hsr] at hsn
    have hpt := fun w => @rpoints_m w s.v s.ax s.ay s.bx s.by_ s.cx s.cy r hgs.1 hr
    have hldS := fun (w1 : World) (hw : Below w.heap.size w w1) => sg_ld (w := w1) (s := s) (ad := ad.add (q * 7)) fun j u hj => keepc hw (hc j u hj)

    refine Good.run (by kernel_rfl) (stop := 3) 1000 _ ?_
    refine Good.slot 58 (.bool (decide (((wordsP (ls.take q)).length : Int) < ((K + 1 : Nat) : Int)))) (.bool true) (by kernel_rfl) (by simp; omega) ?_
    refine Good.run (by kernel_rfl) (stop := 8) 1000 _ ?_
    refine Good.slot 63 (.bool (decide ((q : Int) < (n : Int)))) (.bool true) (by kernel_rfl) (by simp; omega) ?_
    refine Good.run (by kernel_rfl) (stop := 1000) 1000 _ ?_
    refine Good.cond true (by kernel_rfl) ?_
    refine Good.run (by kernel_rfl) (stop := 3) 1000 _ ?_
    refine Good.ask (idxS 22 (.slice A n c) q) (.pointer (some (ad.add (q * 7)))) (by kernel_rfl) (fun w1 hw h => sg_idx hA (by omega)) ?_
    refine Good.run (by kernel_rfl) (stop := 1000) 1000 _ ?_
    refine Good.ask (ldS 41 (ad.add (q * 7))) (Sg.val s) (by kernel_rfl) (fun w1 hw h => hldS w1 hw) ?_
    refine Good.run (by kernel_rfl) (stop := 1000) 1000 _ ?_
    refine Good.callv (fun w1 hw h => hpt w1) (by kernel_rfl) (fun y3 => ?_)
    refine Good.run (by kernel_rfl) (stop := 1000) 1000 _ ?_
    refine Good.slot 13 (.int .i64 (IntKind.i64.wrap (((wordsP (ls.take q)).length : Int) + IntKind.i64.wrap (1 + IntKind.i64.wrap (2 * (r : Int)))))) (.int .i64 ((wordsP (ls.take (q + 1))).length : Int)) (by kernel_rfl) (by rw [IntWalk.i64_in (2 * (r : Int)) (by omega), IntWalk.i64_in (1 + 2 * (r : Int)) (by omega), IntWalk.i64_in _ (by omega), hsn]; congr 1) ?_
    refine Good.slot 12 (.int .i64 (IntKind.i64.wrap ((q : Int) + 1))) (.int .i64 ((q + 1 : Nat) : Int)) (by kernel_rfl) (by rw [wrap_succ hlt (by omega)]) ?_
    refine Good.next (⟨q + 1, by omega⟩) (by kernel_rfl) (by show J - (q + 1) < J - q; omega) ⟨by kernel_rfl, by kernel_rfl, by kernel_rfl⟩ (fun u h => h.1)
end

theorem set_plan {ls : List Sg} {K : Nat} (hg : ∀ s ∈ ls, GoodS s) (hl : (fmtP ls).length ≤ 30000) (hK : K < (wordsP ls).length) : ∃ F V, F = (joinBy 32 ((wordsP ls).take K) ++ sepB K).length ∧ V = (joinBy 32 ((wordsP ls).take (K + 1))).length ∧ F ≤ (fmtP ls).length ∧ V ≤ (fmtP ls).length ∧ parseP ((fmtP ls).take F ++ [120] ++ (fmtP ls).drop V) = ([], K, 3) := by
  obtain ⟨x, hx⟩ : ∃ x, (wordsP ls)[K]? = some x := ⟨_, List.getElem?_eq_getElem hK⟩
  refine ⟨_, _, rfl, rfl, ?_, join_take_le hK, ?_⟩
  · have h1 := congrArg List.length (join_split3 hx)
    simp only [List.length_append] at h1 ⊢
    show _ ≤ (joinBy 32 (wordsP ls)).length
    omega
  · have h2 := text_set (z := [120]) hx
    have h3 : (joinBy 32 ((wordsP ls).set K [120])).length ≤ 65536 := by
      rw [h2]
      simp only [List.length_append, List.length_take, List.length_drop, List.length_singleton]
      have h4 : (joinBy 32 (wordsP ls)).length ≤ 30000 := hl
      omega
    show parseP ((joinBy 32 (wordsP ls)).take _ ++ [120] ++ (joinBy 32 (wordsP ls)).drop _) = _
    rw [← h2, parseP_join (set_mem (wordsP_mem hg) K) h3]
    exact parse_set hg hK
section
variable {w : World} {A y : Option Addr} {n c m yc : Nat} {l : List UInt8} {ls : List Sg}
theorem words_0 : Calls Tryd.prog 14 #[strOf []] w (CallPost w (fun y : Option Addr × Nat => .slice y.1 0 y.2) fun y u => True) :=
  (words_m (l := []) (B := w.heap.size) (Nat.le_refl _) (Nat.le_refl _) (by decide)).mono fun e w' k => k.cast fun y u h => trivial
set_option maxRecDepth 100000 in
set_option maxHeartbeats 4000000 in
theorem lawPathWords {z : Int} (hM : ML w) (hs : SgAt w A n ls) : Calls Tryd.prog 7 #[.slice A n c, .int .i64 z] w (CallPost w (fun _ : Unit => .bool true) fun _ _ => True) := by
  refine Good.enter Tryd.func7 rfl ?_
  refine Good.run (by kernel_rfl) (stop := 1000) 1000 _ ?_
  by_cases hbig : n > 100
  ·
    refine Good.condr (decide ((n : Int) > 100)) true (by kernel_rfl) (by simp; omega) ?_
    refine Good.run (by kernel_rfl) (stop := 1000) 1000 _ ?_
    refine Good.callv (fun w1 hw h => example14_m (hM.below hw)) (by kernel_rfl) (fun u => ?_)
    refine Good.run (by kernel_rfl) (stop := 1000) 1000 _ ?_
    refine Good.ret (v := .bool true) (by kernel_rfl) (fun w1 hw h => ⟨(), rfl, hw, fun _ _ _ => trivial⟩)
  refine Good.condr (decide ((n : Int) > 100)) false (by kernel_rfl) (by simp; omega) ?_
  refine Good.run (by kernel_rfl) (stop := 1000) 1000 _ ?_
  have hln := hs.1
  cases hok : okPath ls with
  | false =>
    have hf : fmtR ls = ([], 10) := if_neg (by simp [hok])
    refine Good.callv (fun w1 hw h => pformat_m (A := A) (n := n) (c := c) (hs.below hw) (by omega) hf) (by kernel_rfl) (fun u => ?_)
    refine Good.run (by kernel_rfl) (stop := 1000) 1000 _ ?_
    refine Good.cond true (by kernel_rfl) ?_
    refine Good.run (by kernel_rfl) (stop := 1) 1000 _ ?_
    refine Good.ask (opS .eql 9 (.tmp 26) (.const (.string ⟨#[]⟩)) (strOf []) (strOf [])) (.bool true) (by kernel_rfl) (fun w1 hw h => run_eqS (by simp)) ?_
    refine Good.run (by kernel_rfl) (stop := 1000) 1000 _ ?_
    refine Good.callv (fun w1 hw h => example14_m (hM.below hw)) (by kernel_rfl) (fun u4 => ?_)
    refine Good.run (by kernel_rfl) (stop := 1000) 1000 _ ?_
    refine Good.ret (v := .bool true) (by kernel_rfl) (fun w1 hw h => ⟨(), rfl, hw, fun _ _ _ => trivial⟩)
  | true =>
    have hf : fmtR ls = (fmtP ls, 0) := if_pos hok
    obtain ⟨hg, hsm⟩ := good_path hok
    have hfl := fmtP_len hg
    by_cases hn0 : n = 0
    · subst hn0
      obtain rfl : ls = [] := List.length_eq_zero_iff.1 hln
      refine Good.callv (fun w1 hw h => pformat_m (A := A) (n := 0) (c := c) (ls := []) (t := []) (e := 0) (hs.below hw) (by omega) rfl) (by kernel_rfl) (fun u => ?_)
      refine Good.run (by kernel_rfl) (stop := 1000) 1000 _ ?_
      refine Good.cond false (by kernel_rfl) ?_
      refine Good.run (by kernel_rfl) (stop := 1000) 1000 _ ?_
      refine Good.un (by kernel_rfl) ?_
      refine Good.run (by kernel_rfl) (stop := 1000) 1000 _ ?_
      refine Good.cond false (by kernel_rfl) ?_
      refine Good.run (by kernel_rfl) (stop := 1000) 1000 _ ?_
      refine Good.callv (fun w1 hw h => words_0) (by kernel_rfl) (fun y => ?_)
      refine Good.run (by kernel_rfl) (stop := 1000) 1000 _ ?_
      refine Good.cond false (by kernel_rfl) ?_
      refine Good.run (by kernel_rfl) (stop := 1000) 1000 _ ?_
      refine Good.cond true (by kernel_rfl) ?_
      refine Good.run (by kernel_rfl) (stop := 1000) 1000 _ ?_
      refine Good.callv (fun w1 hw h => example14_m (hM.below hw)) (by kernel_rfl) (fun u4 => ?_)
      refine Good.run (by kernel_rfl) (stop := 1000) 1000 _ ?_
      refine Good.ret (v := .bool true) (by kernel_rfl) (fun w1 hw h => ⟨(), rfl, hw, fun _ _ _ => trivial⟩)
    have hne : wordsP ls ≠ [] := fun e => by
      rw [wordsP_nil] at e
      subst e
      exact hn0 (by simpa using hln.symm)
    have hmem := wordsP_mem hg
    obtain ⟨hE1, hE2⟩ := ends_words hne hmem
    obtain ⟨E, hE⟩ : ∃ E, E = ends (fmtP ls) := ⟨_, rfl⟩
    obtain ⟨W, hW⟩ : ∃ W, W = (wordsP ls).length := ⟨_, rfl⟩
    have hEl : E.length = W := by rw [hE, hW]; exact hE1
    have hW0 : 0 < W := by rw [hW]; exact List.length_pos_iff.2 hne
    have hWl : W ≤ 7 * n := by
      have := wordsP_len ls
      omega
    obtain ⟨Z, hZ⟩ := rem_nat (z := z)
    obtain ⟨K, hK⟩ : ∃ K, K = Z % W := ⟨_, rfl⟩
    have hKW : K < W := by rw [hK]; exact Nat.mod_lt _ hW0
    obtain ⟨F, V, hF, hV, hFl, hVl, hR⟩ := set_plan (K := K) hg (by omega) (by omega)
    have hEK : E[K]? = some V := by rw [hE, hV]; exact hE2 K (by omega)
    refine Good.callv (fun w1 hw h => pformat_m (A := A) (n := n) (c := c) (hs.below hw) (by omega) hf) (by kernel_rfl) (fun u => ?_)
    refine Good.run (by kernel_rfl) (stop := 1000) 1000 _ ?_
    refine Good.cond false (by kernel_rfl) ?_
    refine Good.run (by kernel_rfl) (stop := 1000) 1000 _ ?_
    refine Good.loop (ι := {q : Nat // q ≤ n}) 105 (fun q => ⟨[(0, .v (.slice A n c)), (1, .v (.int .i64 z)), (5, .v (strOf (fmtP ls))), (7, .v (.int .i64 (wordsP (ls.take q.1)).length)), (36, .v (.int .i64 n)), (37, .v (.int .i64 q.1))], []⟩) (fun q u => True) (fun q => n - q.1) (⟨0, Nat.zero_le _⟩) (by kernel_rfl) (fun _ => by kernel_rfl) ⟨by kernel_rfl, by kernel_rfl, by kernel_rfl⟩ (fun u h => trivial) ?_
    rintro ⟨q, hq⟩ gg
    have hq : q ≤ n := hq
    have hqm : (wordsP (ls.take q)).length ≤ W := by rw [hW, words_split ls q, List.length_append]; omega
    by_cases hlt : q < n
    case neg =>
      obtain rfl : q = n := by omega
      have hfull : ls.take q = ls := List.take_of_length_le (by omega)
      refine Good.run (by kernel_rfl) (stop := 1000) 1000 _ ?_
      refine Good.condr (decide ((q : Int) < (q : Int))) false (by kernel_rfl) (by simp) ?_
      refine Good.run (by kernel_rfl) (stop := 1000) 1000 _ ?_
      refine Good.leave (by kernel_rfl) ?_
      refine Good.run (by kernel_rfl) (stop := 1000) 1000 _ ?_
      refine Good.slot 7 (.int .i64 ((wordsP (ls.take q)).length : Int)) (.int .i64 (W : Int)) (by kernel_rfl) (by rw [hfull, hW]) ?_
      refine Good.callv (fun w1 hw h => words_f (l := fmtP ls) hE.symm hEl hW0 (by omega)) (by kernel_rfl) (fun y => ?_)
      refine Good.run (by kernel_rfl) (stop := 1000) 1000 _ ?_
      refine Good.condr (((W : Int) != (W : Int))) false (by kernel_rfl) (by simp) ?_
      refine Good.run (by kernel_rfl) (stop := 1000) 1000 _ ?_
      refine Good.condr (((W : Int) == 0)) false (by kernel_rfl) (by simp; omega) ?_
      refine Good.run (by kernel_rfl) (stop := 2) 1000 _ ?_
      refine Good.slot 61 (.int .u64 (IntKind.u64.wrap z)) (.int .u64 (Z : Int)) (by kernel_rfl) (by rw [hZ]) ?_
      refine Good.run (by kernel_rfl) (stop := 4) 1000 _ ?_
      refine Good.slot 63 (.int .u64 (IntKind.u64.wrap (W : Int))) (.int .u64 (W : Int)) (by kernel_rfl) (by rw [IntWalk.u64_in _ (by omega)]) ?_
      refine Good.ask (opS .rem 35 (.tmp 61) (.tmp 63) (.int .u64 (Z : Int)) (.int .u64 (W : Int))) (.int .u64 (K : Int)) (by kernel_rfl) (fun w1 hw h => by rw [hK]; exact run_remS hW0) ?_
      refine Good.run (by kernel_rfl) (stop := 6) 1000 _ ?_
      refine Good.slot 65 (.int .i64 (IntKind.i64.wrap (K : Int))) (.int .i64 (K : Int)) (by kernel_rfl) (by rw [IntWalk.i64_in _ (by omega)]) ?_
      refine Good.run (by kernel_rfl) (stop := 1000) 1000 _ ?_
      by_cases hK0 : K = 0
      · have hF0 : F = 0 := by rw [hF, hK0]; rfl
        refine Good.condr (decide ((K : Int) > 0)) false (by kernel_rfl) (by simp; omega) ?_
        refine Good.run (by kernel_rfl) (stop := 2) 1000 _ ?_
        refine Good.slot 11 (.int .i64 0) (.int .i64 (F : Int)) (by kernel_rfl) (by rw [hF0]; rfl) ?_
        refine Good.slot 76 (.int .i64 0) (.int .i64 (F : Int)) (by kernel_rfl) (by rw [hF0]; rfl) ?_
        refine Good.askAt 2 (toA 9 (strOf (fmtP ls)) (F : Int)) (strOf ((fmtP ls).take F)) (by kernel_rfl) (fun w1 hw h => run_toA (by kernel_rfl) hFl) ?_
        refine Good.run (by kernel_rfl) (stop := 3) 1000 _ ?_
        refine Good.askAt 3 (opS .add 9 (.tmp 77) (.const (.string ⟨#[120]⟩)) (strOf ((fmtP ls).take F)) (strOf [120])) (strOf ((fmtP ls).take F ++ [120])) (by kernel_rfl) (fun w1 hw h => run_addP (by simp; omega)) ?_
        refine Good.run (by kernel_rfl) (stop := 7) 1000 _ ?_
        refine Good.askAt 7 (idxS 33 (.slice (some ⟨y.1, 0, none⟩) W y.2) K) (.pointer (some ((⟨y.1, 0, none⟩ : Addr).add K))) (by kernel_rfl) (fun w1 hw h => run_idxS (elem := 3) (by kernel_rfl) (by kernel_rfl) hKW) ?_
        refine Good.run (by kernel_rfl) (stop := 8) 1000 _ ?_
        refine Good.askAt 8 (ldS 3 ((⟨y.1, 0, none⟩ : Addr).add K)) (.int .i64 (V : Int)) (by kernel_rfl) (fun w1 hw h => run_ldS (by kernel_rfl) (by have h1 := h.2 K V hEK; rw [Addr.add_mid, Nat.zero_add]; exact h1)) ?_
        refine Good.run (by kernel_rfl) (stop := 9) 1000 _ ?_
        refine Good.askAt 9 (fromA 9 (strOf (fmtP ls)) (V : Int)) (strOf ((fmtP ls).drop V)) (by kernel_rfl) (fun w1 hw h => run_fromA (by kernel_rfl) hVl) ?_
        refine Good.run (by kernel_rfl) (stop := 10) 1000 _ ?_
        refine Good.ask (opS .add 9 (.tmp 78) (.tmp 84) (strOf ((fmtP ls).take F ++ [120])) (strOf ((fmtP ls).drop V))) (strOf ((fmtP ls).take F ++ [120] ++ (fmtP ls).drop V)) (by kernel_rfl) (fun w1 hw h => run_addP (by simp; omega)) ?_
        refine Good.run (by kernel_rfl) (stop := 11) 1000 _ ?_
        refine Good.run (by kernel_rfl) (stop := 1000) 1000 _ ?_
        refine Good.callv (fun w1 hw h => pparse_m (l := (fmtP ls).take F ++ [120] ++ (fmtP ls).drop V) (hM.below hw) (by simp; omega) hR) (by kernel_rfl) (fun y2 => ?_)
        refine Good.run (by kernel_rfl) (stop := 1000) 9 _ ?_
        refine Good.run (by kernel_rfl) (stop := 7) 1000 _ ?_
        refine Good.slot 96 (.bool ((K : Int) == (K : Int))) (.bool true) (by kernel_rfl) (by simp) ?_
        refine Good.run (by kernel_rfl) (stop := 1000) 1000 _ ?_
        refine Good.callv (fun w1 hw h => example14_m (hM.below hw)) (by kernel_rfl) (fun u4 => ?_)
        refine Good.run (by kernel_rfl) (stop := 1000) 1000 _ ?_
        refine Good.ret (v := .bool true) (by kernel_rfl) (fun w1 hw h => ⟨(), rfl, hw, fun _ _ _ => trivial⟩)
      · obtain ⟨K', hKK⟩ : ∃ K', K = K' + 1 := ⟨K - 1, by omega⟩
        obtain ⟨V', hV'⟩ : ∃ V', V' = (joinBy 32 ((wordsP ls).take (K' + 1))).length := ⟨_, rfl⟩
        have hFV : F = V' + 1 := by rw [hF, hV', hKK, List.length_append]; rfl
        have hEK' : E[K']? = some V' := by rw [hE, hV']; exact hE2 K' (by omega)
        refine Good.condr (decide ((K : Int) > 0)) true (by kernel_rfl) (by simp; omega) ?_
        refine Good.run (by kernel_rfl) (stop := 3) 1000 _ ?_
        refine Good.slot 70 (.int .i64 (IntKind.i64.wrap ((K : Int) - 1))) (.int .i64 (K' : Int)) (by kernel_rfl) (by rw [IntWalk.i64_in _ (by omega)]; congr 1; omega) ?_
        refine Good.ask (idxS 33 (.slice (some ⟨y.1, 0, none⟩) W y.2) K') (.pointer (some ((⟨y.1, 0, none⟩ : Addr).add K'))) (by kernel_rfl) (fun w1 hw h => run_idxS (elem := 3) (by kernel_rfl) (by kernel_rfl) (by omega)) ?_
        refine Good.run (by kernel_rfl) (stop := 4) 1000 _ ?_
        refine Good.ask (ldS 3 ((⟨y.1, 0, none⟩ : Addr).add K')) (.int .i64 (V' : Int)) (by kernel_rfl) (fun w1 hw h => run_ldS (by kernel_rfl) (by have h1 := h.2 K' V' hEK'; rw [Addr.add_mid, Nat.zero_add]; exact h1)) ?_
        refine Good.run (by kernel_rfl) (stop := 6) 1000 _ ?_
        refine Good.slot 73 (.int .i64 (IntKind.i64.wrap ((V' : Int) + 1))) (.int .i64 (F : Int)) (by kernel_rfl) (by rw [IntWalk.i64_in _ (by omega)]; congr 1; omega) ?_
        refine Good.run (by kernel_rfl) (stop := 2) 1000 _ ?_
        refine Good.askAt 2 (toA 9 (strOf (fmtP ls)) (F : Int)) (strOf ((fmtP ls).take F)) (by kernel_rfl) (fun w1 hw h => run_toA (by kernel_rfl) hFl) ?_
        refine Good.run (by kernel_rfl) (stop := 3) 1000 _ ?_
        refine Good.askAt 3 (opS .add 9 (.tmp 77) (.const (.string ⟨#[120]⟩)) (strOf ((fmtP ls).take F)) (strOf [120])) (strOf ((fmtP ls).take F ++ [120])) (by kernel_rfl) (fun w1 hw h => run_addP (by simp; omega)) ?_
        refine Good.run (by kernel_rfl) (stop := 7) 1000 _ ?_
        refine Good.askAt 7 (idxS 33 (.slice (some ⟨y.1, 0, none⟩) W y.2) K) (.pointer (some ((⟨y.1, 0, none⟩ : Addr).add K))) (by kernel_rfl) (fun w1 hw h => run_idxS (elem := 3) (by kernel_rfl) (by kernel_rfl) hKW) ?_
        refine Good.run (by kernel_rfl) (stop := 8) 1000 _ ?_
        refine Good.askAt 8 (ldS 3 ((⟨y.1, 0, none⟩ : Addr).add K)) (.int .i64 (V : Int)) (by kernel_rfl) (fun w1 hw h => run_ldS (by kernel_rfl) (by have h1 := h.2 K V hEK; rw [Addr.add_mid, Nat.zero_add]; exact h1)) ?_
        refine Good.run (by kernel_rfl) (stop := 9) 1000 _ ?_
        refine Good.askAt 9 (fromA 9 (strOf (fmtP ls)) (V : Int)) (strOf ((fmtP ls).drop V)) (by kernel_rfl) (fun w1 hw h => run_fromA (by kernel_rfl) hVl) ?_
        refine Good.run (by kernel_rfl) (stop := 10) 1000 _ ?_
        refine Good.ask (opS .add 9 (.tmp 78) (.tmp 84) (strOf ((fmtP ls).take F ++ [120])) (strOf ((fmtP ls).drop V))) (strOf ((fmtP ls).take F ++ [120] ++ (fmtP ls).drop V)) (by kernel_rfl) (fun w1 hw h => run_addP (by simp; omega)) ?_
        refine Good.run (by kernel_rfl) (stop := 11) 1000 _ ?_
        refine Good.run (by kernel_rfl) (stop := 1000) 1000 _ ?_
        refine Good.callv (fun w1 hw h => pparse_m (l := (fmtP ls).take F ++ [120] ++ (fmtP ls).drop V) (hM.below hw) (by simp; omega) hR) (by kernel_rfl) (fun y2 => ?_)
        refine Good.run (by kernel_rfl) (stop := 1000) 9 _ ?_
        refine Good.run (by kernel_rfl) (stop := 7) 1000 _ ?_
        refine Good.slot 96 (.bool ((K : Int) == (K : Int))) (.bool true) (by kernel_rfl) (by simp) ?_
        refine Good.run (by kernel_rfl) (stop := 1000) 1000 _ ?_
        refine Good.callv (fun w1 hw h => example14_m (hM.below hw)) (by kernel_rfl) (fun u4 => ?_)
        refine Good.run (by kernel_rfl) (stop := 1000) 1000 _ ?_
        refine Good.ret (v := .bool true) (by kernel_rfl) (fun w1 hw h => ⟨(), rfl, hw, fun _ _ _ => trivial⟩)
    have hmono := words_mono ls (show q ≤ n by omega)
    obtain ⟨s, hsk⟩ : ∃ s, ls[q]? = some s := ⟨_, List.getElem?_eq_getElem (by omega)⟩
    obtain ⟨ad, hA, hc⟩ := hs.2 q s hsk
    have hgs := hg s (List.mem_of_getElem? hsk)
    obtain ⟨r, hr, hr3⟩ := named_good hgs.1
    have hsr := segW_r hgs hr
    have hsn := congrArg List.length (wordsP_snoc hsk)
    rw [List.length_append, hsr] at hsn
    have hpt := fun w => @rpoints_m w s.v s.ax s.ay s.bx s.by_ s.cx s.cy r hgs.1 hr
    have hldS := fun (w1 : World) (hw : Below w.heap.size w w1) => sg_ld (w := w1) (s := s) (ad := ad.add (q * 7)) fun j u hj => keepc hw (hc j u hj)
    have hq1 : (wordsP (ls.take (q + 1))).length ≤ W := by rw [hW, words_split ls (q + 1), List.length_append]; omega
    refine Good.run (by kernel_rfl) (stop := 1000) 1000 _ ?_
    refine Good.condr (decide ((q : Int) < (n : Int))) true (by kernel_rfl) (by simp; omega) ?_
    refine Good.run (by kernel_rfl) (stop := 3) 1000 _ ?_
    refine Good.ask (idxS 22 (.slice A n c) q) (.pointer (some (ad.add (q * 7)))) (by kernel_rfl) (fun w1 hw h => sg_idx hA (by omega)) ?_
    refine Good.run (by kernel_rfl) (stop := 1000) 1000 _ ?_
    refine Good.ask (ldS 41 (ad.add (q * 7))) (Sg.val s) (by kernel_rfl) (fun w1 hw h => hldS w1 hw) ?_
    refine Good.run (by kernel_rfl) (stop := 1000) 1000 _ ?_
    refine Good.callv (fun w1 hw h => hpt w1) (by kernel_rfl) (fun y3 => ?_)
    refine Good.run (by kernel_rfl) (stop := 1000) 1000 _ ?_
    refine Good.slot 7 (.int .i64 (IntKind.i64.wrap (((wordsP (ls.take q)).length : Int) + IntKind.i64.wrap (1 + IntKind.i64.wrap (2 * (r : Int)))))) (.int .i64 ((wordsP (ls.take (q + 1))).length : Int)) (by kernel_rfl) (by rw [IntWalk.i64_in (2 * (r : Int)) (by omega), IntWalk.i64_in (1 + 2 * (r : Int)) (by omega), IntWalk.i64_in _ (by omega), hsn]; congr 1) ?_
    refine Good.slot 37 (.int .i64 (IntKind.i64.wrap ((q : Int) + 1))) (.int .i64 ((q + 1 : Nat) : Int)) (by kernel_rfl) (by rw [wrap_succ hlt (by omega)]) ?_
    refine Good.next (⟨q + 1, by omega⟩) (by kernel_rfl) (by show n - (q + 1) < n - q; omega) ⟨by kernel_rfl, by kernel_rfl, by kernel_rfl⟩ (fun u h => trivial)
end

section
variable {w : World} {A : Option Addr} {n c : Nat} {z : Int}
theorem cap_of_rd {s : Nat} {sh : Sh} (h : Rd w (.sl s sh) [.slice A n c]) : n ≤ c := by
  obtain ⟨A', len, cap, e, h1, h2, h3⟩ := h
  simp only [List.cons.injEq, Value.slice.injEq, and_true] at e
  obtain ⟨rfl, rfl, rfl⟩ := e
  exact h1
theorem rowPrefix (hM : ML w) (i : Rd w (.sl 7 shSg) [.slice A n c]) : Calls Tryd.prog 6 #[.slice A n c, .int .i64 z] w (Done w) := by
  obtain ⟨ls, hs⟩ := sg_of_rd i
  exact (lawPrefix hM hs (cap_of_rd i)).mono fun _ _ h => law_done h
theorem rowWords (hM : ML w) (i : Rd w (.sl 7 shSg) [.slice A n c]) : Calls Tryd.prog 7 #[.slice A n c, .int .i64 z] w (Done w) := by
  obtain ⟨ls, hs⟩ := sg_of_rd i
  exact (lawPathWords hM hs).mono fun _ _ h => law_done h
end

end Go.Proofs.YtlpnjoenkohadaaDoor
