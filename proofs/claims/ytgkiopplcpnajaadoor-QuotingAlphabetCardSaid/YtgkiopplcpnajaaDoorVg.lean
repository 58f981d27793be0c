/-
  Quoting: splitting into lines, likeness of rows, what is few, the examples.
-/
import Derived.Test.YtgkiopplcpnajaaDoorVf
namespace Go.Proofs.YtgkiopplcpnajaaDoor
set_option linter.unusedVariables false
set_option linter.unusedSimpArgs false
open Go.RowKit

theorem split_end (c : UInt8) : ∀ m : List UInt8, splitBy c (m ++ [c]) = splitBy c m ++ [[]]
  | [] => by simp [splitBy]
  | b :: m => by
    have ih := split_end c m
    show splitBy c (b :: (m ++ [c])) = _
    rw [splitBy, splitBy, ih]
    split
    · rfl
    · cases hs : splitBy c m with
      | nil => exact absurd hs (splitBy_ne c m)
      | cons h t => rfl
theorem split_last {c b : UInt8} (hb : b ≠ c) : ∀ m : List UInt8, ∃ p x, splitBy c (m ++ [b]) = p ++ [x ++ [b]]
  | [] => ⟨[], [], by simp [splitBy, hb]⟩
  | a :: m => by
    obtain ⟨p, x, ih⟩ := split_last hb m
    show ∃ p x, splitBy c (a :: (m ++ [b])) = _
    rw [splitBy, ih]
    split
    · exact ⟨[] :: p, x, rfl⟩
    · cases p with
      | nil => exact ⟨[], a :: x, rfl⟩
      | cons h t => exact ⟨(a :: h) :: t, x, rfl⟩
theorem ok_dec {l : List UInt8} (h0 : l ≠ []) : okN l = Lib.hasSuffix l [10] := by
  obtain ⟨m, b, rfl⟩ : ∃ m b, l = m ++ [b] := ⟨l.dropLast, l.getLast h0, (List.dropLast_concat_getLast h0).symm⟩
  unfold okN Lib.hasSuffix
  rw [List.getLast?_concat]
  by_cases hb : b = 10
  · subst hb
    have h1 : ([10] : List UInt8).isSuffixOf (m ++ [10]) = true := List.isSuffixOf_iff_suffix.2 ⟨m, rfl⟩
    rw [h1]; simp
  · have h1 : ([10] : List UInt8).isSuffixOf (m ++ [b]) = false := by
      cases hs : ([10] : List UInt8).isSuffixOf (m ++ [b])
      · rfl
      · obtain ⟨t, ht⟩ := List.isSuffixOf_iff_suffix.1 hs
        have := congrArg List.getLast? ht
        rw [List.getLast?_concat, List.getLast?_concat] at this
        injection this with this
        exact absurd this.symm hb
    rw [h1]; simp [hb]
theorem trim_ok {l : List UInt8} (h0 : l ≠ []) (h : okN l = true) : Lib.trimSuffix l [10] = l.dropLast := by
  unfold Lib.trimSuffix
  rw [← ok_dec h0, h, if_pos rfl, List.dropLast_eq_take]; rfl
theorem lines_words {l : List UInt8} (h0 : l ≠ []) (h : okN l = true) : splitBy 10 l = linesN l ++ [[]] := by
  obtain ⟨m, b, rfl⟩ : ∃ m b, l = m ++ [b] := ⟨l.dropLast, l.getLast h0, (List.dropLast_concat_getLast h0).symm⟩
  have hb : b = 10 := by
    rw [okN, List.getLast?_concat] at h
    simpa using h
  subst hb
  rw [split_end, linesN, if_neg h0, List.dropLast_concat]
theorem lines_bad {l : List UInt8} (h : okN l = false) : ∃ p x, splitBy 10 l = p ++ [x] ∧ x ≠ [] := by
  have h0 : l ≠ [] := by rintro rfl; cases h
  obtain ⟨m, b, rfl⟩ : ∃ m b, l = m ++ [b] := ⟨l.dropLast, l.getLast h0, (List.dropLast_concat_getLast h0).symm⟩
  have hb : b ≠ 10 := by
    rintro rfl
    rw [okN, List.getLast?_concat] at h
    simp at h
  obtain ⟨p, x, e⟩ := split_last hb m
  exact ⟨p, x ++ [b], e, by simp⟩
def slH (t : TypeId) (s : Value) (i : Int) : Sem Next := Instr.sliceAt t s none (some (.int .i64 i)) none >>= fun v => pure (.value v)
section
variable {w : World} {l : List UInt8} {A A2 : Option Addr} {n n2 c c2 : Nat} {xs bs ls : List (List UInt8)}
def Calls_suf (l : List UInt8) : Prop := ∀ w, Calls Tryd.prog 33 #[strOf l, .string ⟨#[10]⟩] w (CallPost w (fun _ : Unit => .tuple #[strOf l.dropLast, .bool true]) fun _ _ => True)
theorem run_slH {P : Program} {t e : TypeId} {g n c i : Nat} (ht : P.underlying t = some (.slice e)) (he : P.elem t = e) (hs : sizeT P e = some 1) (hi : i ≤ c) : (slH t (.slice (some ⟨g, 0, none⟩) n c) i).run P w = .ok (.value (.slice (some ⟨g, 0, none⟩) i c)) w := by
  have h1 := run_slice_h (P := P) w t (some ⟨g, 0, none⟩) n c (by rw [he]; exact ht) .i64 i (by omega) (by omega)
  have h2 := run_sliceAt_slice (P := P) w t (.slice (some ⟨g, 0, none⟩) n c) none (some (.int .i64 i)) none (by rw [he]; exact ht)
  simp only [slH, Sem.run_bind, h2, h1, he, run_sizeT hs, Result.andThen_ok, Sem.run_pure]
  simp [sliced, Addr.add]
set_option maxRecDepth 100000 in
set_option maxHeartbeats 1000000 in
theorem sl_s (hM : ML w) (hB : okN l = true) (hl : l.length ≤ 10000000) : Calls Tryd.prog 20 #[strOf l] w (CallPost w (fun y : Option Addr × Nat => .tuple #[.slice y.1 (linesN l).length y.2, .int .i64 0]) fun y u => StrAt u y.1 (linesN l).length (linesN l)) := by
  by_cases h0 : l = []
  · subst h0
    refine Good.enter Tryd.func20 rfl ?_
    refine Good.run (by kernel_rfl) (stop := 1) 1000 _ ?_
    refine Good.run (by kernel_rfl) (stop := 1000) 1 _ ?_
    refine Good.run (by kernel_rfl) (stop := 1) 1000 _ ?_
    refine Good.ask (opS .eql 9 (.tmp 6) (.const (.string ⟨#[]⟩)) (strOf []) (strOf [])) (.bool true) (by kernel_rfl) (fun w1 hw h => run_eqS (by simp)) ?_
    refine Good.run (by kernel_rfl) (stop := 1000) 1000 _ ?_
    refine Good.cond true (by kernel_rfl) ?_
    refine Good.run (by kernel_rfl) (stop := 1000) 1000 _ ?_
    refine Good.ret (v := .tuple #[.slice none 0 0, .int .i64 0]) (by kernel_rfl) (fun w1 hw h => ⟨(none, 0), rfl, hw, fun _ _ _ => strAt_nil⟩)
  have e1 := ok_dec h0
  have e2 := trim_ok h0 hB
  have e3 : linesN l = splitBy 10 l.dropLast := if_neg h0
  rw [hB] at e1
  have hsuf : Calls_suf l := fun w => by have := suf_m (w := w) (l := l) (by omega); rw [e2, ← e1] at this; exact this
  refine Good.enter Tryd.func20 rfl ?_
  refine Good.run (by kernel_rfl) (stop := 1) 1000 _ ?_
  refine Good.run (by kernel_rfl) (stop := 1000) 1 _ ?_
  refine Good.run (by kernel_rfl) (stop := 1) 1000 _ ?_
  refine Good.ask (opS .eql 9 (.tmp 6) (.const (.string ⟨#[]⟩)) (strOf l) (strOf [])) (.bool false) (by kernel_rfl) (fun w1 hw h => run_eqS (by simpa using h0)) ?_
  refine Good.run (by kernel_rfl) (stop := 1000) 1000 _ ?_
  refine Good.cond false (by kernel_rfl) ?_
  refine Good.run (by kernel_rfl) (stop := 1000) 1000 _ ?_
  refine Good.callv (fun w1 hw h => hsuf w1) (by kernel_rfl) (fun u => ?_)
  refine Good.run (by kernel_rfl) (stop := 1000) 1000 _ ?_
  refine Good.cond false (by kernel_rfl) ?_
  refine Good.run (by kernel_rfl) (stop := 1000) 1000 _ ?_
  refine Good.callv (fun w1 hw h => split_m 10 (l := l.dropLast) (hM.below hw) (by simp; omega)) (by kernel_rfl) (fun g => ?_)
  refine Good.run (by kernel_rfl) (stop := 1000) 1000 _ ?_
  refine Good.ret (v := .tuple #[.slice (some ⟨g, 0, none⟩) (splitBy 10 l.dropLast).length (splitBy 10 l.dropLast).length, .int .i64 0]) (by kernel_rfl) (fun w1 hw h => ⟨(some ⟨g, 0, none⟩, (splitBy 10 l.dropLast).length), by rw [e3], hw, fun w'' k1 k2 => by rw [e3]; exact (h w'' k1 k2).2⟩)
set_option maxRecDepth 100000 in
set_option maxHeartbeats 1000000 in
theorem sl_n (hB : okN l = false) (hl : l.length ≤ 10000000) : Calls Tryd.prog 20 #[strOf l] w (CallPost w (fun _ : Option Addr × Nat => .tuple #[.slice none 0 0, .int .i64 3]) fun _ _ => True) := by
  have h0 : l ≠ [] := by rintro rfl; cases hB
  have e1 := ok_dec h0
  rw [hB] at e1
  refine Good.enter Tryd.func20 rfl ?_
  refine Good.run (by kernel_rfl) (stop := 1) 1000 _ ?_
  refine Good.run (by kernel_rfl) (stop := 1000) 1 _ ?_
  refine Good.run (by kernel_rfl) (stop := 1) 1000 _ ?_
  refine Good.ask (opS .eql 9 (.tmp 6) (.const (.string ⟨#[]⟩)) (strOf l) (strOf [])) (.bool false) (by kernel_rfl) (fun w1 hw h => run_eqS (by simpa using h0)) ?_
  refine Good.run (by kernel_rfl) (stop := 1000) 1000 _ ?_
  refine Good.cond false (by kernel_rfl) ?_
  refine Good.run (by kernel_rfl) (stop := 1000) 1000 _ ?_
  refine Good.callv (fun w1 hw h => (by have := suf_m (w := w1) (l := l) (by omega); rw [← e1] at this; exact this : Calls Tryd.prog 33 #[strOf l, .string ⟨#[10]⟩] w1 (CallPost w1 (fun _ : Unit => .tuple #[strOf (Lib.trimSuffix l [10]), .bool false]) fun _ _ => True))) (by kernel_rfl) (fun u => ?_)
  refine Good.run (by kernel_rfl) (stop := 1000) 1000 _ ?_
  refine Good.cond true (by kernel_rfl) ?_
  refine Good.run (by kernel_rfl) (stop := 1000) 1000 _ ?_
  refine Good.ret (v := .tuple #[.slice none 0 0, .int .i64 3]) (by kernel_rfl) (fun w1 hw h => ⟨(none, 0), rfl, hw, fun _ _ _ => trivial⟩)
set_option maxRecDepth 100000 in
set_option maxHeartbeats 1000000 in
theorem rsl_s (hB : okN l = true) (hl : l.length ≤ 10000) : Calls Tryd.prog 21 #[strOf l] w (CallPost w (fun y : Option Addr × Nat => .tuple #[.slice y.1 (linesN l).length y.2, .int .i64 0]) fun y u => StrAt u y.1 (linesN l).length (linesN l)) := by
  by_cases h0 : l = []
  · subst h0
    refine Good.enter Tryd.func21 rfl ?_
    refine Good.run (by kernel_rfl) (stop := 1) 1000 _ ?_
    refine Good.run (by kernel_rfl) (stop := 1000) 1 _ ?_
    refine Good.run (by kernel_rfl) (stop := 1) 1000 _ ?_
    refine Good.ask (opS .eql 9 (.tmp 5) (.const (.string ⟨#[]⟩)) (strOf []) (strOf [])) (.bool true) (by kernel_rfl) (fun w1 hw h => run_eqS (by simp)) ?_
    refine Good.run (by kernel_rfl) (stop := 1000) 1000 _ ?_
    refine Good.cond true (by kernel_rfl) ?_
    refine Good.run (by kernel_rfl) (stop := 1000) 1000 _ ?_
    refine Good.ret (v := .tuple #[.slice none 0 0, .int .i64 0]) (by kernel_rfl) (fun w1 hw h => ⟨(none, 0), rfl, hw, fun _ _ _ => strAt_nil⟩)
  have e1 := lines_words h0 hB
  obtain ⟨m, hm⟩ : ∃ m, m = (linesN l).length := ⟨_, rfl⟩
  have e2 : (splitBy 10 l).length = m + 1 := by rw [e1, hm]; simp
  have hm2 : m ≤ 30000 := by have := split_count 10 l; have := List.count_le_length (a := (10 : UInt8)) (l := l); omega
  refine Good.enter Tryd.func21 rfl ?_
  refine Good.run (by kernel_rfl) (stop := 1) 1000 _ ?_
  refine Good.run (by kernel_rfl) (stop := 1000) 1 _ ?_
  refine Good.run (by kernel_rfl) (stop := 1) 1000 _ ?_
  refine Good.ask (opS .eql 9 (.tmp 5) (.const (.string ⟨#[]⟩)) (strOf l) (strOf [])) (.bool false) (by kernel_rfl) (fun w1 hw h => run_eqS (by simpa using h0)) ?_
  refine Good.run (by kernel_rfl) (stop := 1000) 1000 _ ?_
  refine Good.cond false (by kernel_rfl) ?_
  refine Good.run (by kernel_rfl) (stop := 0) 1000 _ ?_
  refine Good.run (by kernel_rfl) (stop := 1000) 1 _ ?_
  refine Good.callv (fun w1 hw h => (by have := rcut_m (w := w1) (l := l) 10 (by omega); rw [e2] at this; exact this : Calls Tryd.prog 31 #[strOf l, .int .u8 (10 : UInt8).toNat] w1 (CallPost w1 (fun y : Option Addr × Nat => .slice y.1 (m + 1) y.2) fun y u => OwnR u 0 9 1 y.1 (m + 1) y.2 (sv (splitBy 10 l))))) (by kernel_rfl) (fun y => ?_)
  refine Good.pure_ (p := (∃ g, y.1 = some ⟨g, 0, none⟩) ∧ m + 1 ≤ y.2) (fun u hu h => (by have h1 := own_cap h.2; obtain ⟨g, hg, _⟩ := h1.2 (by omega); exact ⟨⟨g, hg⟩, h1.1⟩)) (by kernel_rfl) (fun hy => ?_)
  obtain ⟨⟨g, hg⟩, hcap⟩ := hy
  obtain ⟨y, yc⟩ := y
  obtain rfl : y = some ⟨g, 0, none⟩ := hg
  refine Good.run (by kernel_rfl) (stop := 4) 1000 _ ?_
  refine Good.slot 12 (.int .i64 (IntKind.i64.wrap (((m + 1 : Nat) : Int) - 1))) (.int .i64 (m : Nat)) (by kernel_rfl) (by rw [IntWalk.i64_in _ (by omega)]; congr 1; omega) ?_
  refine Good.ask (idxS 28 (.slice (some ⟨g, 0, none⟩) (m + 1) yc) m) (.pointer (some ((⟨g, 0, none⟩ : Addr).add m))) (by kernel_rfl) (fun w1 hw h => run_idxS (elem := 9) (by kernel_rfl) (by kernel_rfl) (by omega)) ?_
  refine Good.run (by kernel_rfl) (stop := 1000) 1000 _ ?_
  refine Good.ask (ldS 9 ((⟨g, 0, none⟩ : Addr).add m)) (strOf []) (by kernel_rfl) (fun w1 hw h => run_ldS (by kernel_rfl) (by obtain ⟨ad2, h3, h4⟩ := (show OwnR w1 0 9 1 (some ⟨g, 0, none⟩) (m + 1) yc (sv (splitBy 10 l)) from h.2).strs.2 m [] (by rw [e1, hm]; simp); cases h3; exact h4)) ?_
  refine Good.run (by kernel_rfl) (stop := 6) 1000 _ ?_
  refine Good.ask (opS .neq 9 (.tmp 14) (.const (.string ⟨#[]⟩)) (strOf []) (strOf [])) (.bool false) (by kernel_rfl) (fun w1 hw h => run_neS (by simp)) ?_
  refine Good.run (by kernel_rfl) (stop := 0) 1000 _ ?_
  refine Good.run (by kernel_rfl) (stop := 1000) 2 _ ?_
  refine Good.cond false (by kernel_rfl) ?_
  refine Good.run (by kernel_rfl) (stop := 4) 1000 _ ?_
  refine Good.slot 19 (.int .i64 (IntKind.i64.wrap (((m + 1 : Nat) : Int) - 1))) (.int .i64 (m : Nat)) (by kernel_rfl) (by rw [IntWalk.i64_in _ (by omega)]; congr 1; omega) ?_
  refine Good.ask (slH 28 (.slice (some ⟨g, 0, none⟩) (m + 1) yc) m) (.slice (some ⟨g, 0, none⟩) m yc) (by kernel_rfl) (fun w1 hw h => run_slH (e := 9) (by kernel_rfl) (by kernel_rfl) (by kernel_rfl) (by have : m + 1 ≤ yc := hcap; omega)) ?_
  refine Good.run (by kernel_rfl) (stop := 1000) 1000 _ ?_
  refine Good.ret (v := .tuple #[.slice (some ⟨g, 0, none⟩) m yc, .int .i64 0]) (by kernel_rfl) (fun w1 hw h => ⟨(some ⟨g, 0, none⟩, yc), by rw [← hm], hw, fun w'' k1 k2 => by have h9 := (show OwnR w'' 0 9 1 (some ⟨g, 0, none⟩) (m + 1) yc (sv (splitBy 10 l)) from (h w'' k1 k2).2).strs; exact ⟨rfl, fun k s hk => h9.2 k s (by rw [e1, List.getElem?_append_left (List.getElem?_eq_some_iff.1 hk).1]; exact hk)⟩⟩)
set_option maxRecDepth 100000 in
set_option maxHeartbeats 1000000 in
theorem rsl_n (hB : okN l = false) (hl : l.length ≤ 10000) : Calls Tryd.prog 21 #[strOf l] w (CallPost w (fun _ : Option Addr × Nat => .tuple #[.slice none 0 0, .int .i64 3]) fun _ _ => True) := by
  have h0 : l ≠ [] := by rintro rfl; cases hB
  obtain ⟨p, x, e1, hx⟩ := lines_bad hB
  obtain ⟨m, hm⟩ : ∃ m, m = p.length := ⟨_, rfl⟩
  have e2 : (splitBy 10 l).length = m + 1 := by rw [e1, hm]; simp
  have hm2 : m ≤ 30000 := by have := split_count 10 l; have := List.count_le_length (a := (10 : UInt8)) (l := l); omega
  refine Good.enter Tryd.func21 rfl ?_
  refine Good.run (by kernel_rfl) (stop := 1) 1000 _ ?_
  refine Good.run (by kernel_rfl) (stop := 1000) 1 _ ?_
  refine Good.run (by kernel_rfl) (stop := 1) 1000 _ ?_
  refine Good.ask (opS .eql 9 (.tmp 5) (.const (.string ⟨#[]⟩)) (strOf l) (strOf [])) (.bool false) (by kernel_rfl) (fun w1 hw h => run_eqS (by simpa using h0)) ?_
  refine Good.run (by kernel_rfl) (stop := 1000) 1000 _ ?_
  refine Good.cond false (by kernel_rfl) ?_
  refine Good.run (by kernel_rfl) (stop := 0) 1000 _ ?_
  refine Good.run (by kernel_rfl) (stop := 1000) 1 _ ?_
  refine Good.callv (fun w1 hw h => (by have := rcut_m (w := w1) (l := l) 10 (by omega); rw [e2] at this; exact this : Calls Tryd.prog 31 #[strOf l, .int .u8 (10 : UInt8).toNat] w1 (CallPost w1 (fun y : Option Addr × Nat => .slice y.1 (m + 1) y.2) fun y u => OwnR u 0 9 1 y.1 (m + 1) y.2 (sv (splitBy 10 l))))) (by kernel_rfl) (fun y => ?_)
  refine Good.pure_ (p := (∃ g, y.1 = some ⟨g, 0, none⟩) ∧ m + 1 ≤ y.2) (fun u hu h => (by have h1 := own_cap h.2; obtain ⟨g, hg, _⟩ := h1.2 (by omega); exact ⟨⟨g, hg⟩, h1.1⟩)) (by kernel_rfl) (fun hy => ?_)
  obtain ⟨⟨g, hg⟩, hcap⟩ := hy
  obtain ⟨y, yc⟩ := y
  obtain rfl : y = some ⟨g, 0, none⟩ := hg
  refine Good.run (by kernel_rfl) (stop := 4) 1000 _ ?_
  refine Good.slot 12 (.int .i64 (IntKind.i64.wrap (((m + 1 : Nat) : Int) - 1))) (.int .i64 (m : Nat)) (by kernel_rfl) (by rw [IntWalk.i64_in _ (by omega)]; congr 1; omega) ?_
  refine Good.ask (idxS 28 (.slice (some ⟨g, 0, none⟩) (m + 1) yc) m) (.pointer (some ((⟨g, 0, none⟩ : Addr).add m))) (by kernel_rfl) (fun w1 hw h => run_idxS (elem := 9) (by kernel_rfl) (by kernel_rfl) (by omega)) ?_
  refine Good.run (by kernel_rfl) (stop := 1000) 1000 _ ?_
  refine Good.ask (ldS 9 ((⟨g, 0, none⟩ : Addr).add m)) (strOf x) (by kernel_rfl) (fun w1 hw h => run_ldS (by kernel_rfl) (by obtain ⟨ad2, h3, h4⟩ := (show OwnR w1 0 9 1 (some ⟨g, 0, none⟩) (m + 1) yc (sv (splitBy 10 l)) from h.2).strs.2 m x (by rw [e1, hm]; simp); cases h3; exact h4)) ?_
  refine Good.run (by kernel_rfl) (stop := 6) 1000 _ ?_
  refine Good.ask (opS .neq 9 (.tmp 14) (.const (.string ⟨#[]⟩)) (strOf x) (strOf [])) (.bool true) (by kernel_rfl) (fun w1 hw h => run_neS (by simpa using hx)) ?_
  refine Good.run (by kernel_rfl) (stop := 1000) 1000 _ ?_
  refine Good.cond true (by kernel_rfl) ?_
  refine Good.run (by kernel_rfl) (stop := 1000) 1000 _ ?_
  refine Good.ret (v := .tuple #[.slice none 0 0, .int .i64 3]) (by kernel_rfl) (fun w1 hw h => ⟨(none, 0), rfl, hw, fun _ _ _ => trivial⟩)
set_option maxRecDepth 100000 in
set_option maxHeartbeats 1000000 in
theorem same_m {B : Bool} (hB : decide (xs = bs) = B) (ha : StrAt w A n xs) (hb : StrAt w A2 n2 bs) (hn : xs.length ≤ 100000000) : Calls Tryd.prog 19 #[.slice A n c, .slice A2 n2 c2] w (CallPost w (fun _ : Unit => .bool B) fun _ _ => True) := by
  have ha1 := ha.1
  have hb1 := hb.1
  by_cases hl : n = n2
  case neg =>
    obtain rfl : B = false := by rw [← hB]; exact decide_eq_false fun e => hl (by rw [← ha1, ← hb1, e])
    refine Good.enter Tryd.func19 rfl ?_
    refine Good.run (by kernel_rfl) (stop := 1000) 1000 _ ?_
    refine Good.condr (((n : Int) != (n2 : Int))) true (by kernel_rfl) (by simp; omega) ?_
    refine Good.run (by kernel_rfl) (stop := 1000) 1000 _ ?_
    refine Good.ret (v := .bool false) (by kernel_rfl) (fun w1 hw h => ⟨(), rfl, hw, fun _ _ _ => trivial⟩)
  refine Good.enter Tryd.func19 rfl ?_
  refine Good.run (by kernel_rfl) (stop := 1000) 1000 _ ?_
  refine Good.condr (((n : Int) != (n2 : Int))) false (by kernel_rfl) (by simp; omega) ?_
  refine Good.run (by kernel_rfl) (stop := 1000) 1000 _ ?_
  refine Good.loop (ι := {k : Nat // k ≤ n ∧ xs.take k = bs.take k}) 26 (fun q => ⟨[(0, .v (.slice A n c)), (1, .v (.slice A2 n2 c2)), (12, .v (.int .i64 n)), (13, .v (.int .i64 q.1))], []⟩) (fun _ _ => True) (fun q => n - q.1) (⟨0, Nat.zero_le _, rfl⟩) (by kernel_rfl) (fun _ => by kernel_rfl) ⟨by kernel_rfl, by kernel_rfl, by kernel_rfl⟩ (fun _ _ => trivial) ?_
  rintro ⟨k, hk, hkd⟩ g
  by_cases hlt : k < n
  · obtain ⟨a, hak⟩ : ∃ a, xs[k]? = some a := ⟨_, List.getElem?_eq_getElem (by omega)⟩
    obtain ⟨b, hbk⟩ : ∃ b, bs[k]? = some b := ⟨_, List.getElem?_eq_getElem (by omega)⟩
    obtain ⟨ad, hA, hca⟩ := ha.2 k a hak
    obtain ⟨bd, hB2, hcb⟩ := hb.2 k b hbk
    refine Good.run (by kernel_rfl) (stop := 1000) 1000 _ ?_
    refine Good.condr (decide ((k : Int) < (n : Int))) true (by kernel_rfl) (by simp; omega) ?_
    refine Good.run (by kernel_rfl) (stop := 1000) 1000 _ ?_
    refine Good.askAt 2 (idxS 28 (.slice A n c) k) (.pointer (some (ad.add k))) (by kernel_rfl) (fun w1 hw h => by rw [hA]; exact run_idxS (elem := 9) (by kernel_rfl) (by kernel_rfl) hlt) ?_
    refine Good.run (by kernel_rfl) (stop := 1000) 1000 _ ?_
    refine Good.askAt 3 (ldS 9 (ad.add k)) (strOf a) (by kernel_rfl) (fun w1 hw h => run_ldS (by kernel_rfl) (keepc hw hca)) ?_
    refine Good.run (by kernel_rfl) (stop := 1000) 1000 _ ?_
    refine Good.askAt 6 (idxS 28 (.slice A2 n2 c2) k) (.pointer (some (bd.add k))) (by kernel_rfl) (fun w1 hw h => by rw [hB2]; exact run_idxS (elem := 9) (by kernel_rfl) (by kernel_rfl) (by omega)) ?_
    refine Good.run (by kernel_rfl) (stop := 1000) 1000 _ ?_
    refine Good.askAt 7 (ldS 9 (bd.add k)) (strOf b) (by kernel_rfl) (fun w1 hw h => run_ldS (by kernel_rfl) (keepc hw hcb)) ?_
    refine Good.run (by kernel_rfl) (stop := 8) 1000 _ ?_
    by_cases he : a = b
    ·
      refine Good.askAt 8 (opS .neq 9 (.tmp 19) (.tmp 23) (strOf a) (strOf b)) (.bool false) (by kernel_rfl) (fun w1 hw h => run_neS (by simp [he])) ?_
      refine Good.run (by kernel_rfl) (stop := 1000) 1000 _ ?_
      refine Good.cond false (by kernel_rfl) ?_
      refine Good.run (by kernel_rfl) (stop := 1000) 1000 _ ?_
      refine Good.slot 13 (.int .i64 (IntKind.i64.wrap ((k : Int) + 1))) (.int .i64 ((k + 1 : Nat) : Int)) (by kernel_rfl) (by rw [wrap_succ hlt (by omega)]) ?_
      refine Good.next (⟨k + 1, by omega, by rw [take_snoc hak, take_snoc hbk, hkd, he]⟩) (by kernel_rfl) (by show n - (k + 1) < n - k; omega) ⟨by kernel_rfl, by kernel_rfl, by kernel_rfl⟩ (fun _ _ => trivial)
    · obtain rfl : B = false := by rw [← hB]; exact decide_eq_false fun e => he (by rw [e, hbk] at hak; injection hak with hak; exact hak.symm)
      refine Good.askAt 8 (opS .neq 9 (.tmp 19) (.tmp 23) (strOf a) (strOf b)) (.bool true) (by kernel_rfl) (fun w1 hw h => run_neS (by simp [he])) ?_
      refine Good.run (by kernel_rfl) (stop := 1000) 1000 _ ?_
      refine Good.cond true (by kernel_rfl) ?_
      refine Good.run (by kernel_rfl) (stop := 1000) 1000 _ ?_
      refine Good.leave (by kernel_rfl) ?_
      refine Good.run (by kernel_rfl) (stop := 1000) 1000 _ ?_
      refine Good.ret (v := .bool false) (by kernel_rfl) (fun w1 hw h => ⟨(), rfl, hw, fun _ _ _ => trivial⟩)
  · obtain rfl : B = true := by rw [← hB]; exact decide_eq_true (by rw [List.take_of_length_le (by omega), List.take_of_length_le (by omega)] at hkd; exact hkd)
    refine Good.run (by kernel_rfl) (stop := 1000) 1000 _ ?_
    refine Good.condr (decide ((k : Int) < (n : Int))) false (by kernel_rfl) (by simp; omega) ?_
    refine Good.run (by kernel_rfl) (stop := 1000) 1000 _ ?_
    refine Good.leave (by kernel_rfl) ?_
    refine Good.run (by kernel_rfl) (stop := 1000) 1000 _ ?_
    refine Good.ret (v := .bool true) (by kernel_rfl) (fun w1 hw h => ⟨(), rfl, hw, fun _ _ _ => trivial⟩)
/-- What few reckons. -/
def minL : List (List UInt8) → Nat
  | [] => 0
  | x :: l => min x.length 5000 + minL l
theorem minL_snoc : ∀ (l : List (List UInt8)) (x : List UInt8), minL (l ++ [x]) = minL l + min x.length 5000
  | [], x => by simp [minL]
  | y :: l, x => by
    have ih := minL_snoc l x
    show min y.length 5000 + minL (l ++ [x]) = _
    rw [ih, minL]; omega
theorem minL_bound : ∀ (l : List (List UInt8)) , minL l ≤ 5000 * l.length
  | [] => Nat.zero_le _
  | x :: l => by
    have ih := minL_bound l
    simp only [minL, List.length_cons]; omega
def fewB (ls : List (List UInt8)) : Bool := decide (ls.length ≤ 300) && decide (minL (ls.take 1000) ≤ 5000)
end

end Go.Proofs.YtgkiopplcpnajaaDoor
