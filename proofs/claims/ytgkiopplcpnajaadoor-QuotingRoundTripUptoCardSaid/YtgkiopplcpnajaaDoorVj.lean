/-
  Quoting: there and back.
-/
import Derived.Test.YtgkiopplcpnajaaDoorVi
namespace Go.Proofs.YtgkiopplcpnajaaDoor
set_option linter.unusedVariables false
set_option linter.unusedSimpArgs false
open Go.RowKit

section
variable {w : World} {l m : List UInt8} {A : Option Addr} {n c : Nat} {ls ps : List (List UInt8)}
theorem quo_ok (s : List UInt8) : unqL (quoL s) = some s := unq_quo s
theorem sum_unq : ∀ l : List (List UInt8), allW l = true → sumL (unqAll l) ≤ sumL l ∧ (unqAll l).length = l.length
  | [], _ => ⟨Nat.le_refl _, rfl⟩
  | x :: l, h => by
    simp only [allW, List.all_cons, Bool.and_eq_true] at h
    obtain ⟨p, hp⟩ := Option.isSome_iff_exists.1 h.1
    have ih := sum_unq l h.2
    rw [unqAll_some hp]
    have hq := quo_unq hp
    have h3 : p.length ≤ x.length := by
      rw [← hq]
      unfold quoL
      split
      · rename_i e; rw [e]; simp
      · exact (flat_len p).1
    simp only [sumL, List.length_cons]
    omega
theorem sum_split (c : UInt8) : ∀ l : List UInt8, sumL (splitBy c l) ≤ l.length
  | [] => by simp [splitBy, sumL]
  | b :: l => by
    have ih := sum_split c l
    rw [splitBy]
    split
    · simp only [sumL, List.length_nil, List.length_cons]; omega
    · cases hs : splitBy c l with
      | nil => exact absurd hs (splitBy_ne c l)
      | cons h t =>
        rw [hs] at ih
        simp only [sumL, List.length_cons] at ih ⊢
        omega
theorem sum_words (m : List UInt8) (h : allW (wordsF m) = true) : sumL (unqAll (wordsF m)) ≤ m.length ∧ (unqAll (wordsF m)).length ≤ m.length + 1 := by
  have h1 := sum_unq _ h
  have h2 := words_len m
  have h3 : sumL (wordsF m) ≤ m.length := by
    unfold wordsF
    split
    · simp [sumL]
    · exact sum_split 32 m
  omega
theorem sum_lines (m : List UInt8) : sumL (linesN m) ≤ m.length ∧ (linesN m).length ≤ m.length + 1 := by
  have h2 := lines_len m
  have h3 : sumL (linesN m) ≤ m.length := by
    unfold linesN
    split
    · simp [sumL]
    · have := sum_split 10 m.dropLast; simp at this; omega
  omega
set_option maxRecDepth 100000 in
set_option maxHeartbeats 4000000 in
theorem lawRound (hM : ML w) (hs : StrAt w A n ls) (hz : sumL ls + ls.length ≤ 1048576) : Calls Tryd.prog 5 #[.slice A n c, strOf m] w (CallPost w (fun _ : Unit => .bool true) fun _ _ => True) := by
  have hln := hs.1
  cases hF : fewB ls with
  | false =>
    refine Good.enter Tryd.func5 rfl ?_
    refine Good.run (by kernel_rfl) (stop := 1000) 1000 _ ?_
    refine Good.callv (fun w1 hw h => few_m (c := c) hF (hs.below hw)) (by kernel_rfl) (fun u => ?_)
    refine Good.run (by kernel_rfl) (stop := 1000) 1000 _ ?_
    refine Good.cond true (by kernel_rfl) ?_
    refine Good.run (by kernel_rfl) (stop := 1000) 1000 _ ?_
    refine Good.callv (fun w1 hw h => example5_m (hM.below hw)) (by kernel_rfl) (fun u => ?_)
    refine Good.run (by kernel_rfl) (stop := 1000) 1000 _ ?_
    refine Good.ret (v := .bool true) (by kernel_rfl) (fun w1 hw h => ⟨(), rfl, hw, fun _ _ _ => trivial⟩)
  | true =>
  by_cases hm : m.length ≤ 3000
  case neg =>
    refine Good.enter Tryd.func5 rfl ?_
    refine Good.run (by kernel_rfl) (stop := 1000) 1000 _ ?_
    refine Good.callv (fun w1 hw h => few_m (c := c) hF (hs.below hw)) (by kernel_rfl) (fun u => ?_)
    refine Good.run (by kernel_rfl) (stop := 1000) 1000 _ ?_
    refine Good.condr (decide ((m.length : Int) > 3000)) true (by kernel_rfl) (by simp; omega) ?_
    refine Good.run (by kernel_rfl) (stop := 1000) 1000 _ ?_
    refine Good.callv (fun w1 hw h => example5_m (hM.below hw)) (by kernel_rfl) (fun u => ?_)
    refine Good.run (by kernel_rfl) (stop := 1000) 1000 _ ?_
    refine Good.ret (v := .bool true) (by kernel_rfl) (fun w1 hw h => ⟨(), rfl, hw, fun _ _ _ => trivial⟩)
  have hjl := joinF_len ls
  obtain ⟨q1, q2⟩ := unqAll_quo ls
  have hwj := words_join ls
  refine Good.enter Tryd.func5 rfl ?_
  refine Good.run (by kernel_rfl) (stop := 1000) 1000 _ ?_
  refine Good.callv (fun w1 hw h => few_m (c := c) hF (hs.below hw)) (by kernel_rfl) (fun u => ?_)
  refine Good.run (by kernel_rfl) (stop := 1000) 1000 _ ?_
  refine Good.condr (decide ((m.length : Int) > 3000)) false (by kernel_rfl) (by simp; omega) ?_
  refine Good.run (by kernel_rfl) (stop := 1000) 1000 _ ?_
  refine Good.loop (ι := {k : Nat // k ≤ n}) 97 (fun q => ⟨[(0, .v (.slice A n c)), (1, .v (strOf m)), (26, .v (.slice A n c)), (27, .v (.int .i64 n)), (28, .v (.int .i64 q.1))], []⟩) (fun _ _ => True) (fun q => n - q.1) (⟨0, Nat.zero_le _⟩) (by kernel_rfl) (fun _ => by kernel_rfl) ⟨by kernel_rfl, by kernel_rfl, by kernel_rfl⟩ (fun _ _ => trivial) ?_
  rintro ⟨k, hk⟩ g
  by_cases hlt : k < n
  · obtain ⟨s, hsk⟩ : ∃ s, ls[k]? = some s := ⟨_, List.getElem?_eq_getElem (by omega)⟩
    obtain ⟨ad, hA, hcell⟩ := hs.2 k s hsk
    have hsl := mem_sum (List.mem_of_getElem? hsk)
    have hql := (quo_len s).2
    refine Good.run (by kernel_rfl) (stop := 1000) 1000 _ ?_
    refine Good.condr (decide ((k : Int) < (n : Int))) true (by kernel_rfl) (by simp; omega) ?_
    refine Good.run (by kernel_rfl) (stop := 1000) 1000 _ ?_
    refine Good.ask (idxS 28 (.slice A n c) k) (.pointer (some (ad.add k))) (by kernel_rfl) (fun w1 hw h => by rw [hA]; exact run_idxS (elem := 9) (by kernel_rfl) (by kernel_rfl) hlt) ?_
    refine Good.run (by kernel_rfl) (stop := 1000) 1000 _ ?_
    refine Good.ask (ldS 9 (ad.add k)) (strOf s) (by kernel_rfl) (fun w1 hw h => run_ldS (by kernel_rfl) (keepc hw hcell)) ?_
    refine Good.run (by kernel_rfl) (stop := 1000) 1000 _ ?_
    refine Good.callv (fun w1 hw h => quote_m (l := s) (by omega)) (by kernel_rfl) (fun u => ?_)
    refine Good.run (by kernel_rfl) (stop := 1000) 1000 _ ?_
    refine Good.callv (fun w1 hw h => unq_s (quo_ok s) (by omega)) (by kernel_rfl) (fun u => ?_)
    refine Good.run (by kernel_rfl) (stop := 0) 1000 _ ?_
    refine Good.run (by kernel_rfl) (stop := 2) 1000 _ ?_
    refine Good.ask (opS .neq 9 (.tmp 38) (.tmp 39) (strOf s) (strOf s)) (.bool false) (by kernel_rfl) (fun w1 hw h => run_neS (by simp)) ?_
    refine Good.run (by kernel_rfl) (stop := 1000) 1000 _ ?_
    refine Good.cond false (by kernel_rfl) ?_
    refine Good.run (by kernel_rfl) (stop := 1000) 1000 _ ?_
    refine Good.slot 28 (.int .i64 (IntKind.i64.wrap ((k : Int) + 1))) (.int .i64 ((k + 1 : Nat) : Int)) (by kernel_rfl) (by rw [wrap_succ hlt (by omega)]) ?_
    refine Good.next (⟨k + 1, by show k + 1 ≤ n; omega⟩) (by kernel_rfl) (by show n - (k + 1) < n - k; omega) ⟨by kernel_rfl, by kernel_rfl, by kernel_rfl⟩ (fun _ _ => trivial)
  refine Good.run (by kernel_rfl) (stop := 1000) 1000 _ ?_
  refine Good.condr (decide ((k : Int) < (n : Int))) false (by kernel_rfl) (by simp; omega) ?_
  refine Good.run (by kernel_rfl) (stop := 1000) 1000 _ ?_
  refine Good.leave (by kernel_rfl) ?_
  refine Good.run (by kernel_rfl) (stop := 1000) 1000 _ ?_
  refine Good.callv (fun w1 hw h => joinFields_m (c := c) (hs.below hw) (by omega) (by omega)) (by kernel_rfl) (fun u => ?_)
  refine Good.run (by kernel_rfl) (stop := 1000) 1000 _ ?_
  refine Good.callv (fun w1 hw h => sfx (l := joinF ls) (ps := ls) (hM.below hw) hwj (by omega)) (by kernel_rfl) (fun a => ?_)
  refine Good.run (by kernel_rfl) (stop := 1000) 1000 _ ?_
  refine Good.callv (fun w1 hw h => same_m (c := a.2) (c2 := c) (B := true) (xs := ls) (bs := ls) (by simp) h.2 (hs.below hw) (by omega)) (by kernel_rfl) (fun u => ?_)
  refine Good.run (by kernel_rfl) (stop := 1000) 1000 _ ?_
  refine Good.cond false (by kernel_rfl) ?_
  refine Good.run (by kernel_rfl) (stop := 1000) 1000 _ ?_
  cases hW : allW (wordsF m) with
  | true =>
    have hsw := sum_words m hW
    have hjw := join_words hW
    cases hu : unqL m with
    | some p =>
      have hq := quo_unq hu
      have hpl : p.length ≤ m.length := by
        rw [← hq]
        unfold quoL
        split
        · rename_i e; rw [e]; simp
        · exact (flat_len p).1
      refine Good.callv (fun w1 hw h => sf_s (l := m) (hM.below hw) hW (by omega)) (by kernel_rfl) (fun b => ?_)
      refine Good.run (by kernel_rfl) (stop := 1000) 1000 _ ?_
      refine Good.callv (fun w1 hw h => unq_s hu (by omega)) (by kernel_rfl) (fun u => ?_)
      refine Good.run (by kernel_rfl) (stop := 1000) 1000 _ ?_
      refine Good.callv (fun w1 hw h => joinFields_m (c := b.2) h.1.2 (by omega) (by omega)) (by kernel_rfl) (fun u => ?_)
      refine Good.run (by kernel_rfl) (stop := 6) 1000 _ ?_
      refine Good.ask (opS .eql 9 (.tmp 80) (.tmp 81) (strOf (joinF (unqAll (wordsF m)))) (strOf m)) (.bool true) (by kernel_rfl) (fun w1 hw h => run_eqS (by rw [hjw]; simp)) ?_
      refine Good.run (by kernel_rfl) (stop := 1000) 1000 _ ?_
      refine Good.callv (fun w1 hw h => quote_m (l := p) (by omega)) (by kernel_rfl) (fun u => ?_)
      refine Good.run (by kernel_rfl) (stop := 15) 1000 _ ?_
      refine Good.ask (opS .eql 9 (.tmp 89) (.tmp 90) (strOf (quoL p)) (strOf m)) (.bool true) (by kernel_rfl) (fun w1 hw h => run_eqS (by rw [hq]; simp)) ?_
      refine Good.run (by kernel_rfl) (stop := 1000) 1000 _ ?_
      refine Good.callv (fun w1 hw h => example5_m (hM.below hw)) (by kernel_rfl) (fun u => ?_)
      refine Good.run (by kernel_rfl) (stop := 1000) 1000 _ ?_
      refine Good.ret (v := .bool true) (by kernel_rfl) (fun w1 hw h => ⟨(), rfl, hw, fun _ _ _ => trivial⟩)
    | none =>
      refine Good.callv (fun w1 hw h => sf_s (l := m) (hM.below hw) hW (by omega)) (by kernel_rfl) (fun b => ?_)
      refine Good.run (by kernel_rfl) (stop := 1000) 1000 _ ?_
      refine Good.callv (fun w1 hw h => unq_n hu (by omega)) (by kernel_rfl) (fun u => ?_)
      refine Good.run (by kernel_rfl) (stop := 1000) 1000 _ ?_
      refine Good.callv (fun w1 hw h => joinFields_m (c := b.2) h.1.2 (by omega) (by omega)) (by kernel_rfl) (fun u => ?_)
      refine Good.run (by kernel_rfl) (stop := 6) 1000 _ ?_
      refine Good.ask (opS .eql 9 (.tmp 80) (.tmp 81) (strOf (joinF (unqAll (wordsF m)))) (strOf m)) (.bool true) (by kernel_rfl) (fun w1 hw h => run_eqS (by rw [hjw]; simp)) ?_
      refine Good.run (by kernel_rfl) (stop := 1000) 1000 _ ?_
      refine Good.callv (fun w1 hw h => example5_m (hM.below hw)) (by kernel_rfl) (fun u => ?_)
      refine Good.run (by kernel_rfl) (stop := 1000) 1000 _ ?_
      refine Good.ret (v := .bool true) (by kernel_rfl) (fun w1 hw h => ⟨(), rfl, hw, fun _ _ _ => trivial⟩)
  | false =>
    cases hu : unqL m with
    | some p =>
      have hq := quo_unq hu
      have hpl : p.length ≤ m.length := by
        rw [← hq]
        unfold quoL
        split
        · rename_i e; rw [e]; simp
        · exact (flat_len p).1
      refine Good.callv (fun w1 hw h => sf_n (l := m) (hM.below hw) hW (by omega)) (by kernel_rfl) (fun b => ?_)
      refine Good.run (by kernel_rfl) (stop := 1000) 1000 _ ?_
      refine Good.callv (fun w1 hw h => unq_s hu (by omega)) (by kernel_rfl) (fun u => ?_)
      refine Good.run (by kernel_rfl) (stop := 1000) 1000 _ ?_
      refine Good.callv (fun w1 hw h => quote_m (l := p) (by omega)) (by kernel_rfl) (fun u => ?_)
      refine Good.run (by kernel_rfl) (stop := 15) 1000 _ ?_
      refine Good.ask (opS .eql 9 (.tmp 89) (.tmp 90) (strOf (quoL p)) (strOf m)) (.bool true) (by kernel_rfl) (fun w1 hw h => run_eqS (by rw [hq]; simp)) ?_
      refine Good.run (by kernel_rfl) (stop := 1000) 1000 _ ?_
      refine Good.callv (fun w1 hw h => example5_m (hM.below hw)) (by kernel_rfl) (fun u => ?_)
      refine Good.run (by kernel_rfl) (stop := 1000) 1000 _ ?_
      refine Good.ret (v := .bool true) (by kernel_rfl) (fun w1 hw h => ⟨(), rfl, hw, fun _ _ _ => trivial⟩)
    | none =>
      refine Good.callv (fun w1 hw h => sf_n (l := m) (hM.below hw) hW (by omega)) (by kernel_rfl) (fun b => ?_)
      refine Good.run (by kernel_rfl) (stop := 1000) 1000 _ ?_
      refine Good.callv (fun w1 hw h => unq_n hu (by omega)) (by kernel_rfl) (fun u => ?_)
      refine Good.run (by kernel_rfl) (stop := 1000) 1000 _ ?_
      refine Good.callv (fun w1 hw h => example5_m (hM.below hw)) (by kernel_rfl) (fun u => ?_)
      refine Good.run (by kernel_rfl) (stop := 1000) 1000 _ ?_
      refine Good.ret (v := .bool true) (by kernel_rfl) (fun w1 hw h => ⟨(), rfl, hw, fun _ _ _ => trivial⟩)
/-- No line feed in any string. -/
def noB (ls : List (List UInt8)) : Bool := ls.all fun s => !s.contains 10
theorem noB_snoc (ls : List (List UInt8)) (s : List UInt8) : noB (ls ++ [s]) = (noB ls && !s.contains 10) := by simp [noB]
theorem con_snoc (s : List UInt8) (b : UInt8) : (s ++ [b]).contains 10 = (s.contains 10 || b == 10) := by
  simp only [List.contains_append, List.contains_cons, List.contains_nil, Bool.or_false]
  rw [show ((10 : UInt8) == b) = (b == 10) from by rcases Decidable.em (b = 10) with e | e; subst e; rfl; rw [beq_eq_false_iff_ne.2 e, beq_eq_false_iff_ne.2 (Ne.symm e)]]
theorem u8_ten (b : UInt8) : (((b.toNat : Nat) : Int) != 10) = !(b == 10) := by
  have key : ∀ n : Fin 256, ((((UInt8.ofNat n.val).toNat : Nat) : Int) != 10) = !(UInt8.ofNat n.val == 10) := by decide +kernel
  have := key ⟨b.toNat, by have := b.toNat_lt; omega⟩
  simpa only [UInt8.ofNat_toNat] using this
theorem okN_bad {l : List UInt8} (h : okN l = false) : ∃ b, l[l.length - 1]? = some b ∧ b ≠ 10 ∧ 0 < l.length := by
  have h0 : l ≠ [] := by rintro rfl; cases h
  obtain ⟨p, b, rfl⟩ : ∃ p b, l = p ++ [b] := ⟨l.dropLast, l.getLast h0, (List.dropLast_concat_getLast h0).symm⟩
  refine ⟨b, by simp, ?_, by simp⟩
  rintro rfl
  rw [okN, List.getLast?_concat] at h
  simp at h
set_option maxRecDepth 100000 in
set_option maxHeartbeats 4000000 in
theorem lawLinesRound (hM : ML w) (hs : StrAt w A n ls) (hz : sumL ls + ls.length ≤ 1048576) : Calls Tryd.prog 8 #[.slice A n c, strOf m] w (CallPost w (fun _ : Unit => .bool true) fun _ _ => True) := by
  have hln := hs.1
  cases hF : fewB ls with
  | false =>
    refine Good.enter Tryd.func8 rfl ?_
    refine Good.run (by kernel_rfl) (stop := 1000) 1000 _ ?_
    refine Good.callv (fun w1 hw h => few_m (c := c) hF (hs.below hw)) (by kernel_rfl) (fun u => ?_)
    refine Good.run (by kernel_rfl) (stop := 1000) 1000 _ ?_
    refine Good.cond true (by kernel_rfl) ?_
    refine Good.run (by kernel_rfl) (stop := 1000) 1000 _ ?_
    refine Good.callv (fun w1 hw h => example5_m (hM.below hw)) (by kernel_rfl) (fun u => ?_)
    refine Good.run (by kernel_rfl) (stop := 1000) 1000 _ ?_
    refine Good.ret (v := .bool true) (by kernel_rfl) (fun w1 hw h => ⟨(), rfl, hw, fun _ _ _ => trivial⟩)
  | true =>
  by_cases hm : m.length ≤ 5000
  case neg =>
    refine Good.enter Tryd.func8 rfl ?_
    refine Good.run (by kernel_rfl) (stop := 1000) 1000 _ ?_
    refine Good.callv (fun w1 hw h => few_m (c := c) hF (hs.below hw)) (by kernel_rfl) (fun u => ?_)
    refine Good.run (by kernel_rfl) (stop := 1000) 1000 _ ?_
    refine Good.condr (decide ((m.length : Int) > 5000)) true (by kernel_rfl) (by simp; omega) ?_
    refine Good.run (by kernel_rfl) (stop := 1000) 1000 _ ?_
    refine Good.callv (fun w1 hw h => example5_m (hM.below hw)) (by kernel_rfl) (fun u => ?_)
    refine Good.run (by kernel_rfl) (stop := 1000) 1000 _ ?_
    refine Good.ret (v := .bool true) (by kernel_rfl) (fun w1 hw h => ⟨(), rfl, hw, fun _ _ _ => trivial⟩)
  have hjl := joinN_len ls
  have hlj := sum_lines (joinN ls)
  have hmany := lines_many ls
  refine Good.enter Tryd.func8 rfl ?_
  refine Good.run (by kernel_rfl) (stop := 1000) 1000 _ ?_
  refine Good.callv (fun w1 hw h => few_m (c := c) hF (hs.below hw)) (by kernel_rfl) (fun u => ?_)
  refine Good.run (by kernel_rfl) (stop := 1000) 1000 _ ?_
  refine Good.condr (decide ((m.length : Int) > 5000)) false (by kernel_rfl) (by simp; omega) ?_
  refine Good.run (by kernel_rfl) (stop := 1000) 1000 _ ?_
  refine Good.loop (ι := {k : Nat // k ≤ n}) 103 (fun q => ⟨[(0, .v (.slice A n c)), (1, .v (strOf m)), (5, .v (.bool (noB (ls.take q.1)))), (22, .v (.slice A n c)), (23, .v (.int .i64 n)), (24, .v (.int .i64 q.1))], []⟩) (fun _ _ => True) (fun q => n - q.1) (⟨0, Nat.zero_le _⟩) (by kernel_rfl) (fun _ => by kernel_rfl) ⟨by kernel_rfl, by kernel_rfl, by kernel_rfl⟩ (fun _ _ => trivial) ?_
  rintro ⟨k, hk⟩ g
  by_cases hlt : k < n
  · obtain ⟨s, hsk⟩ : ∃ s, ls[k]? = some s := ⟨_, List.getElem?_eq_getElem (by omega)⟩
    obtain ⟨ad, hA, hcell⟩ := hs.2 k s hsk
    have hsl := mem_sum (List.mem_of_getElem? hsk)
    refine Good.run (by kernel_rfl) (stop := 1000) 1000 _ ?_
    refine Good.condr (decide ((k : Int) < (n : Int))) true (by kernel_rfl) (by simp; omega) ?_
    refine Good.run (by kernel_rfl) (stop := 1000) 1000 _ ?_
    refine Good.ask (idxS 28 (.slice A n c) k) (.pointer (some (ad.add k))) (by kernel_rfl) (fun w1 hw h => by rw [hA]; exact run_idxS (elem := 9) (by kernel_rfl) (by kernel_rfl) hlt) ?_
    refine Good.run (by kernel_rfl) (stop := 1000) 1000 _ ?_
    refine Good.ask (ldS 9 (ad.add k)) (strOf s) (by kernel_rfl) (fun w1 hw h => run_ldS (by kernel_rfl) (keepc hw hcell)) ?_
    refine Good.run (by kernel_rfl) (stop := 1000) 1000 _ ?_
    refine Good.slot 5 (.bool (noB (ls.take k))) (.bool (noB (ls.take k) && !(s.take 0).contains 10)) (by kernel_rfl) (by simp) ?_
    refine Good.loop (ι := {j : Nat // j ≤ s.length}) 103 (fun q => ⟨[(0, .v (.slice A n c)), (1, .v (strOf m)), (5, .v (.bool (noB (ls.take k) && !(s.take q.1).contains 10))), (7, .v (strOf s)), (8, .v (.int .i64 q.1)), (22, .v (.slice A n c)), (23, .v (.int .i64 n)), (24, .v (.int .i64 k))], []⟩) (fun _ _ => True) (fun q => s.length - q.1) (⟨0, Nat.zero_le _⟩) (by kernel_rfl) (fun _ => by kernel_rfl) ⟨by kernel_rfl, by kernel_rfl, by kernel_rfl⟩ (fun _ _ => trivial) ?_
    rintro ⟨j, hj⟩ g
    by_cases hjl : j < s.length
    · obtain ⟨b, hb⟩ : ∃ b, s[j]? = some b := ⟨_, List.getElem?_eq_getElem hjl⟩
      have hnx : (noB (ls.take k) && !(s.take (j + 1)).contains 10) = (noB (ls.take k) && !(s.take j).contains 10 && !(b == 10)) := by
        rw [List.take_add_one, hb]
        show (noB (ls.take k) && !(s.take j ++ [b]).contains 10) = _
        rw [con_snoc]
        cases noB (ls.take k) <;> cases (s.take j).contains 10 <;> cases (b == 10) <;> rfl
      refine Good.run (by kernel_rfl) (stop := 1000) 1000 _ ?_
      refine Good.condr (decide ((j : Int) < (s.length : Int))) true (by kernel_rfl) (by simp; omega) ?_
      refine Good.run (by kernel_rfl) (stop := 1) 1000 _ ?_
      cases hp : (noB (ls.take k) && !(s.take j).contains 10) with
      | false =>
        rw [hp, Bool.false_and] at hnx
        refine Good.run (by kernel_rfl) (stop := 1000) 1000 _ ?_
        refine Good.slot 5 (.bool false) (.bool (noB (ls.take k) && !(s.take (j + 1)).contains 10)) (by kernel_rfl) (by rw [hnx]) ?_
        refine Good.slot 8 (.int .i64 (IntKind.i64.wrap ((j : Int) + 1))) (.int .i64 ((j + 1 : Nat) : Int)) (by kernel_rfl) (by rw [wrap_succ hjl (by omega)]) ?_
        refine Good.next (⟨j + 1, by show j + 1 ≤ s.length; omega⟩) (by kernel_rfl) (by show s.length - (j + 1) < s.length - j; omega) ⟨by kernel_rfl, by kernel_rfl, by kernel_rfl⟩ (fun _ _ => trivial)
      | true =>
        rw [hp, Bool.true_and] at hnx
        refine Good.run (by kernel_rfl) (stop := 4) 1000 _ ?_
        refine Good.ask (ixS 9 (strOf s) j) (.int .u8 b.toNat) (by kernel_rfl) (fun w1 hw h => run_ixP (by kernel_rfl) hb) ?_
        refine Good.run (by kernel_rfl) (stop := 1000) 1000 _ ?_
        refine Good.slot 5 (.bool (((b.toNat : Nat) : Int) != 10)) (.bool (noB (ls.take k) && !(s.take (j + 1)).contains 10)) (by kernel_rfl) (by rw [hnx, u8_ten b]) ?_
        refine Good.slot 8 (.int .i64 (IntKind.i64.wrap ((j : Int) + 1))) (.int .i64 ((j + 1 : Nat) : Int)) (by kernel_rfl) (by rw [wrap_succ hjl (by omega)]) ?_
        refine Good.next (⟨j + 1, by show j + 1 ≤ s.length; omega⟩) (by kernel_rfl) (by show s.length - (j + 1) < s.length - j; omega) ⟨by kernel_rfl, by kernel_rfl, by kernel_rfl⟩ (fun _ _ => trivial)
    · have hfull : s.take j = s := List.take_of_length_le (by omega)
      refine Good.run (by kernel_rfl) (stop := 1000) 1000 _ ?_
      refine Good.condr (decide ((j : Int) < (s.length : Int))) false (by kernel_rfl) (by simp; omega) ?_
      refine Good.run (by kernel_rfl) (stop := 1000) 1000 _ ?_
      refine Good.leave (by kernel_rfl) ?_
      refine Good.run (by kernel_rfl) (stop := 1000) 1000 _ ?_
      refine Good.slot 5 (.bool (noB (ls.take k) && !(s.take j).contains 10)) (.bool (noB (ls.take (k + 1)))) (by kernel_rfl) (by rw [hfull, take_snoc hsk, noB_snoc]) ?_
      refine Good.slot 24 (.int .i64 (IntKind.i64.wrap ((k : Int) + 1))) (.int .i64 ((k + 1 : Nat) : Int)) (by kernel_rfl) (by rw [wrap_succ hlt (by omega)]) ?_
      refine Good.next (⟨k + 1, by show k + 1 ≤ n; omega⟩) (by kernel_rfl) (by show n - (k + 1) < n - k; omega) ⟨by kernel_rfl, by kernel_rfl, by kernel_rfl⟩ (fun _ _ => trivial)
  have hfull : ls.take k = ls := List.take_of_length_le (by omega)
  refine Good.run (by kernel_rfl) (stop := 1000) 1000 _ ?_
  refine Good.condr (decide ((k : Int) < (n : Int))) false (by kernel_rfl) (by simp; omega) ?_
  refine Good.run (by kernel_rfl) (stop := 1000) 1000 _ ?_
  refine Good.leave (by kernel_rfl) ?_
  refine Good.run (by kernel_rfl) (stop := 1000) 1000 _ ?_
  refine Good.callv (fun w1 hw h => joinLines_m (c := c) (hs.below hw) (by omega) (by omega)) (by kernel_rfl) (fun u => ?_)
  refine Good.run (by kernel_rfl) (stop := 1000) 1000 _ ?_
  refine Good.callv (fun w1 hw h => sl_s (l := joinN ls) (hM.below hw) (okN_join ls) (by omega)) (by kernel_rfl) (fun a => ?_)
  refine Good.run (by kernel_rfl) (stop := 0) 1000 _ ?_
  refine Good.run (by kernel_rfl) (stop := 4) 1000 _ ?_
  cases hp : noB ls with
  | true =>
    have hlp : linesN (joinN ls) = ls := lines_plain fun x hx h10 => by
      have := List.all_eq_true.1 hp x hx
      simp [h10] at this
    refine Good.slot 51 (.bool (noB (ls.take k))) (.bool true) (by kernel_rfl) (by rw [hfull, hp]) ?_
    refine Good.run (by kernel_rfl) (stop := 1000) 1000 _ ?_
    refine Good.callv (fun w1 hw h => same_m (c := a.2) (c2 := c) (B := true) (xs := linesN (joinN ls)) (bs := ls) (by rw [hlp]; simp) h.2 (hs.below hw) (by omega)) (by kernel_rfl) (fun u => ?_)
    refine Good.run (by kernel_rfl) (stop := 17) 1000 _ ?_
    refine Good.slot 64 (.bool (decide (((linesN (joinN ls)).length : Int) < (n : Int)))) (.bool false) (by kernel_rfl) (by rw [decide_eq_false (by omega)]) ?_
    refine Good.run (by kernel_rfl) (stop := 1000) 1000 _ ?_
    refine Good.cond false (by kernel_rfl) ?_
    refine Good.run (by kernel_rfl) (stop := 1000) 1000 _ ?_
    cases hW : okN m with
    | true =>
      have hsl := sum_lines m
      have hjm := join_lines hW
      refine Good.callv (fun w1 hw h => sl_s (l := m) (hM.below hw) hW (by omega)) (by kernel_rfl) (fun b => ?_)
      refine Good.run (by kernel_rfl) (stop := 1000) 1000 _ ?_
      refine Good.cond false (by kernel_rfl) ?_
      refine Good.run (by kernel_rfl) (stop := 1000) 1000 _ ?_
      refine Good.callv (fun w1 hw h => joinLines_m (c := b.2) h.2 (by omega) (by omega)) (by kernel_rfl) (fun u => ?_)
      refine Good.run (by kernel_rfl) (stop := 3) 1000 _ ?_
      refine Good.ask (opS .eql 9 (.tmp 97) (.tmp 98) (strOf (joinN (linesN m))) (strOf m)) (.bool true) (by kernel_rfl) (fun w1 hw h => run_eqS (by rw [hjm]; simp)) ?_
      refine Good.run (by kernel_rfl) (stop := 1000) 1000 _ ?_
      refine Good.callv (fun w1 hw h => example5_m (hM.below hw)) (by kernel_rfl) (fun u => ?_)
      refine Good.run (by kernel_rfl) (stop := 1000) 1000 _ ?_
      refine Good.ret (v := .bool true) (by kernel_rfl) (fun w1 hw h => ⟨(), rfl, hw, fun _ _ _ => trivial⟩)
    | false =>
      obtain ⟨b, hb, hb2, hb3⟩ := okN_bad hW
      refine Good.callv (fun w1 hw h => sl_n (l := m) hW (by omega)) (by kernel_rfl) (fun b2 => ?_)
      refine Good.run (by kernel_rfl) (stop := 1000) 1000 _ ?_
      refine Good.cond true (by kernel_rfl) ?_
      refine Good.run (by kernel_rfl) (stop := 12) 1000 _ ?_
      refine Good.slot 84 (.bool (decide ((m.length : Int) > 0))) (.bool true) (by kernel_rfl) (by rw [decide_eq_true (by omega)]) ?_
      refine Good.run (by kernel_rfl) (stop := 17) 1000 _ ?_
      refine Good.slot 89 (.int .i64 (IntKind.i64.wrap ((m.length : Int) - 1))) (.int .i64 ((m.length - 1 : Nat) : Int)) (by kernel_rfl) (by rw [IntWalk.i64_in _ (by omega)]; congr 1; omega) ?_
      refine Good.ask (ixS 9 (strOf m) (m.length - 1 : Nat)) (.int .u8 b.toNat) (by kernel_rfl) (fun w1 hw h => run_ixP (by kernel_rfl) hb) ?_
      refine Good.run (by kernel_rfl) (stop := 20) 1000 _ ?_
      refine Good.slot 92 (.bool (((b.toNat : Nat) : Int) != 10)) (.bool true) (by kernel_rfl) (by rw [u8_ten b]; simpa using hb2) ?_
      refine Good.run (by kernel_rfl) (stop := 1000) 1000 _ ?_
      refine Good.callv (fun w1 hw h => example5_m (hM.below hw)) (by kernel_rfl) (fun u => ?_)
      refine Good.run (by kernel_rfl) (stop := 1000) 1000 _ ?_
      refine Good.ret (v := .bool true) (by kernel_rfl) (fun w1 hw h => ⟨(), rfl, hw, fun _ _ _ => trivial⟩)
  | false =>
    refine Good.slot 51 (.bool (noB (ls.take k))) (.bool false) (by kernel_rfl) (by rw [hfull, hp]) ?_
    refine Good.run (by kernel_rfl) (stop := 17) 1000 _ ?_
    refine Good.slot 64 (.bool (decide (((linesN (joinN ls)).length : Int) < (n : Int)))) (.bool false) (by kernel_rfl) (by rw [decide_eq_false (by omega)]) ?_
    refine Good.run (by kernel_rfl) (stop := 1000) 1000 _ ?_
    refine Good.cond false (by kernel_rfl) ?_
    refine Good.run (by kernel_rfl) (stop := 1000) 1000 _ ?_
    cases hW : okN m with
    | true =>
      have hsl := sum_lines m
      have hjm := join_lines hW
      refine Good.callv (fun w1 hw h => sl_s (l := m) (hM.below hw) hW (by omega)) (by kernel_rfl) (fun b => ?_)
      refine Good.run (by kernel_rfl) (stop := 1000) 1000 _ ?_
      refine Good.cond false (by kernel_rfl) ?_
      refine Good.run (by kernel_rfl) (stop := 1000) 1000 _ ?_
      refine Good.callv (fun w1 hw h => joinLines_m (c := b.2) h.2 (by omega) (by omega)) (by kernel_rfl) (fun u => ?_)
      refine Good.run (by kernel_rfl) (stop := 3) 1000 _ ?_
      refine Good.ask (opS .eql 9 (.tmp 97) (.tmp 98) (strOf (joinN (linesN m))) (strOf m)) (.bool true) (by kernel_rfl) (fun w1 hw h => run_eqS (by rw [hjm]; simp)) ?_
      refine Good.run (by kernel_rfl) (stop := 1000) 1000 _ ?_
      refine Good.callv (fun w1 hw h => example5_m (hM.below hw)) (by kernel_rfl) (fun u => ?_)
      refine Good.run (by kernel_rfl) (stop := 1000) 1000 _ ?_
      refine Good.ret (v := .bool true) (by kernel_rfl) (fun w1 hw h => ⟨(), rfl, hw, fun _ _ _ => trivial⟩)
    | false =>
      obtain ⟨b, hb, hb2, hb3⟩ := okN_bad hW
      refine Good.callv (fun w1 hw h => sl_n (l := m) hW (by omega)) (by kernel_rfl) (fun b2 => ?_)
      refine Good.run (by kernel_rfl) (stop := 1000) 1000 _ ?_
      refine Good.cond true (by kernel_rfl) ?_
      refine Good.run (by kernel_rfl) (stop := 12) 1000 _ ?_
      refine Good.slot 84 (.bool (decide ((m.length : Int) > 0))) (.bool true) (by kernel_rfl) (by rw [decide_eq_true (by omega)]) ?_
      refine Good.run (by kernel_rfl) (stop := 17) 1000 _ ?_
      refine Good.slot 89 (.int .i64 (IntKind.i64.wrap ((m.length : Int) - 1))) (.int .i64 ((m.length - 1 : Nat) : Int)) (by kernel_rfl) (by rw [IntWalk.i64_in _ (by omega)]; congr 1; omega) ?_
      refine Good.ask (ixS 9 (strOf m) (m.length - 1 : Nat)) (.int .u8 b.toNat) (by kernel_rfl) (fun w1 hw h => run_ixP (by kernel_rfl) hb) ?_
      refine Good.run (by kernel_rfl) (stop := 20) 1000 _ ?_
      refine Good.slot 92 (.bool (((b.toNat : Nat) : Int) != 10)) (.bool true) (by kernel_rfl) (by rw [u8_ten b]; simpa using hb2) ?_
      refine Good.run (by kernel_rfl) (stop := 1000) 1000 _ ?_
      refine Good.callv (fun w1 hw h => example5_m (hM.below hw)) (by kernel_rfl) (fun u => ?_)
      refine Good.run (by kernel_rfl) (stop := 1000) 1000 _ ?_
      refine Good.ret (v := .bool true) (by kernel_rfl) (fun w1 hw h => ⟨(), rfl, hw, fun _ _ _ => trivial⟩)
end

end Go.Proofs.YtgkiopplcpnajaaDoor
