/-
  Quoting: strings that came in, and what their bulk says; the rows' last step.
-/
import Derived.Test.YtgkiopplcpnajaaDoorRows
import Derived.Test.YtgkiopplcpnajaaDoorVj
namespace Go.Proofs.YtgkiopplcpnajaaDoor
set_option linter.unusedVariables false
set_option linter.unusedSimpArgs false
open Go.RowKit
open Go.ChangeShapes Go.WideShapes Go.ChangeAt Go.RowKit Go.Deep Go.WideElems Go.Maps Go.Joins

theorem bulk_app {H : Type} : ∀ l r : List (DataW H), Rows.uptoBulkAll (l ++ r) = Rows.uptoBulkAll l + Rows.uptoBulkAll r
  | [], r => by simp [Rows.uptoBulkAll]
  | x :: l, r => by
    have ih := bulk_app l r
    simp only [List.cons_append, Rows.uptoBulkAll, ih]; omega
theorem sumL_snoc : ∀ (l : List (List UInt8)) (x : List UInt8), sumL (l ++ [x]) = sumL l + x.length
  | [], x => by simp [sumL]
  | y :: l, x => by
    have ih := sumL_snoc l x
    simp only [List.cons_append, sumL, ih]; omega
theorem strs_of_trod {H : Type} {enc : TypeId × Value → H} {w : World} {base : Nat} {held : Bool} {T : TypeId} {fuel n c : Nat} {A : Option Addr} {x : DataW H × List MemPlace} (hT : Tryd.prog.underlying T = some (.slice 9))
    (h : DataW.trod enc Tryd.prog w base (fun _ => true) held fuel T [.slice A n c] = some x) : ∃ ls, StrAt w A n ls ∧ sumL ls + ls.length ≤ Rows.uptoBulk x.1 := by
  rcases open_slice1 hT (by kernel_rfl) h with ⟨hcs, _⟩ | ⟨a, len, cap, m, k, V, D, Pl, hcs, hb, hl, hm, hmm, hx, hel⟩
  · simp only [List.cons.injEq, Value.slice.injEq, and_true] at hcs
    obtain ⟨rfl, rfl, rfl⟩ := hcs
    exact ⟨[], strAt_nil, by simp [sumL]⟩
  · simp only [List.cons.injEq, Value.slice.injEq, and_true] at hcs
    obtain ⟨rfl, rfl, rfl⟩ := hcs
    have key : ∀ j, j ≤ n → ∃ ls : List (List UInt8), ls.length = j ∧ (∀ (i : Nat) (s : List UInt8), ls[i]? = some s → w.cell? (a.add i) = some (strOf s)) ∧ sumL ls + j ≤ Rows.uptoBulkAll ((List.range j).map D) := by
      intro j
      induction j with
      | zero => exact fun _ => ⟨[], rfl, fun i s h => by simp at h, by simp [sumL]⟩
      | succ j ih =>
        intro hj
        obtain ⟨ls, h1, h2, h3⟩ := ih (by omega)
        obtain ⟨k1, k2⟩ := hel j (by rw [hmm]; simp; omega)
        obtain ⟨s, e1, e2, _⟩ := DataW.trod_string (by kernel_rfl) k2
        simp only [List.cons.injEq, and_true] at e1
        have eD : D j = .lit (.string s.data.toList) := congrArg Prod.fst e2
        refine ⟨ls ++ [s.data.toList], by simp [h1], fun i u hi => ?_, ?_⟩
        · rcases Nat.lt_or_ge i j with hlt | hge
          · rw [List.getElem?_append_left (by omega)] at hi
            exact h2 i u hi
          · have hi' := (List.getElem?_eq_some_iff.1 hi).1
            simp only [List.length_append, List.length_singleton] at hi'
            obtain rfl : i = j := by omega
            rw [List.getElem?_append_right (by omega), h1, Nat.sub_self] at hi
            cases hi
            rw [k1, e1]; rfl
        · rw [List.range_succ, List.map_append, bulk_app, sumL_snoc]
          simp only [List.map_cons, List.map_nil, Rows.uptoBulkAll, eD, Rows.uptoBulk]
          omega
    obtain ⟨ls, h1, h2, h3⟩ := key n (Nat.le_refl _)
    refine ⟨ls, ⟨h1, fun i s hi => ⟨a, rfl, h2 i s hi⟩⟩, ?_⟩
    rw [hx]
    simp only [Rows.uptoBulk]
    omega
section
variable {w : World} {A : Option Addr} {n c : Nat} {ls : List (List UInt8)}
theorem rowWords {s t : ByteArray} (hM : ML w) : Calls Tryd.prog 3 #[.string s, .string t] w (Done w) := (lawWords (l := s.data.toList) (m := t.data.toList) hM).mono fun _ _ h => law_done h
theorem rowAlphabet {s t : ByteArray} (hM : ML w) : Calls Tryd.prog 6 #[.string s, .string t] w (Done w) := (lawAlphabet (l := s.data.toList) (m := t.data.toList) hM).mono fun _ _ h => law_done h
theorem rowFields {s : ByteArray} (hM : ML w) (hs : StrAt w A n ls) (hz : sumL ls + ls.length ≤ 1048576) : Calls Tryd.prog 4 #[.slice A n c, .string s] w (Done w) := (lawFields (m := s.data.toList) hM hs hz).mono fun _ _ h => law_done h
theorem rowRound {s : ByteArray} (hM : ML w) (hs : StrAt w A n ls) (hz : sumL ls + ls.length ≤ 1048576) : Calls Tryd.prog 5 #[.slice A n c, .string s] w (Done w) := (lawRound (m := s.data.toList) hM hs hz).mono fun _ _ h => law_done h
theorem rowLinesRound {s : ByteArray} (hM : ML w) (hs : StrAt w A n ls) (hz : sumL ls + ls.length ≤ 1048576) : Calls Tryd.prog 8 #[.slice A n c, .string s] w (Done w) := (lawLinesRound (m := s.data.toList) hM hs hz).mono fun _ _ h => law_done h
theorem rowLines {s : ByteArray} (hM : ML w) (hs : StrAt w A n ls) (hz : sumL ls + ls.length ≤ 1048576) : Calls Tryd.prog 7 #[.slice A n c, .string s] w (Done w) := (lawLines (m := s.data.toList) hM hs hz).mono fun _ _ h => law_done h
end

end Go.Proofs.YtgkiopplcpnajaaDoor
