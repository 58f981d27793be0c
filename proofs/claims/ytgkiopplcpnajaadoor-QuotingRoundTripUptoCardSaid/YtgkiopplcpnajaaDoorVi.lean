/-
  Quoting: the laws on fields, on lines and on the way there and back.
-/
import Derived.Test.YtgkiopplcpnajaaDoorVh
import Derived.Deep.Upon
namespace Go.Proofs.YtgkiopplcpnajaaDoor
set_option linter.unusedVariables false
set_option linter.unusedSimpArgs false
open Go.RowKit

theorem cell_lt {w : World} {a : Addr} {v : Value} (h : w.cell? a = some v) : a.block < w.heap.size := by
  rcases Nat.lt_or_ge a.block w.heap.size with h1 | h1
  · exact h1
  · simp [World.cell?, Array.getElem?_eq_none h1] at h
section
variable {w : World} {l m : List UInt8} {A : Option Addr} {n c : Nat} {ls ps : List (List UInt8)}
theorem StrAt.reads (h : StrAt w A n ls) : Reads w w.heap.size 1 A n (sv ls) := by
  refine ⟨by simp [sv, h.1], fun h0 => ?_⟩
  obtain ⟨s, hs⟩ : ∃ s, ls[0]? = some s := ⟨_, List.getElem?_eq_getElem (by rw [h.1]; exact h0)⟩
  obtain ⟨ad, hA, hc⟩ := h.2 0 s hs
  refine ⟨ad, hA, ?_, fun j u hj => ?_⟩
  · have := cell_lt hc
    simpa [Addr.add] using this
  · simp only [sv, List.getElem?_map] at hj
    obtain ⟨x, hx, rfl⟩ := Option.map_eq_some_iff.1 hj
    obtain ⟨ad2, hA2, hc2⟩ := h.2 j x hx
    rw [hA] at hA2; cases hA2
    exact hc2
theorem run_app0 {g : Nat} : (appS 28 28 (.slice (some ⟨g, 0, none⟩) 0 0) (.slice A 0 c)).run Tryd.prog w = .ok (.value (.slice (some ⟨g, 0, none⟩) 0 0)) w := by
  have hu : Tryd.prog.underlying 28 = some (.slice 9) := by kernel_rfl
  obtain ⟨i, hi⟩ : ∃ i, Tryd.prog.info? 9 = some i := Option.isSome_iff_exists.1 (by kernel_rfl)
  have hs : Src Tryd.prog i.size 28 (.slice A 0 c) 0 [] w := by
    cases A with
    | none => exact Src.ofNil w hu c
    | some a => exact Src.ofSlice w hu a 0 c [] (by simp) (fun j u h => by simp at h) (fun u h => by cases h)
  simp only [appS, Sem.run_bind, run_append_nothing w _ _ _ _ i hu hi _ 0 0 (Nat.le_refl _) _ hs, Result.andThen_ok, Sem.run_pure]
theorem app_all {g : Nat} (h : StrAt w A n ls) (hn : n ≤ 100000000) :
    MakePost Tryd.prog w (fun y : Option Addr × Nat => .slice y.1 n y.2) (fun y v => StrAt v y.1 n ls) (appS 28 28 (.slice (some ⟨g, 0, none⟩) 0 0) (.slice A n c)) := by
  by_cases h0 : n = 0
  · subst h0
    have hl : ls = [] := List.length_eq_zero_iff.1 h.1
    subst hl
    exact ⟨(some ⟨g, 0, none⟩, 0), w, run_app0, Below.refl _ _, fun _ _ _ => ⟨rfl, fun k s hk => by simp at hk⟩⟩
  · obtain ⟨ad, hA, _⟩ := h.reads.2 (by omega)
    subst hA
    have := appendG_m (P := Tryd.prog) (w := w) (s := 1) (z := .string ⟨#[]⟩) (bytes := 16) (n := 0) (c := 0) (m := n) (cc := c) (xs := []) (ys := sv ls) (b := ⟨g, 0, none⟩) (a := ad) (B := 0) (t := 28) (elem := 9) (by kernel_rfl) (by kernel_rfl) rfl (by decide) ⟨by simp, fun h => absurd h (by omega)⟩ h.reads (by omega) (by omega) (by decide) (Nat.zero_le _) (.inr rfl) (.inl (by omega))
    obtain ⟨x, w', h1, h2, h3⟩ := this
    rw [Nat.zero_add] at h1
    exact ⟨x, w', h1, h2, fun w'' k1 k2 => by have h4 := h3 w'' k1 k2; rw [Nat.zero_add, List.nil_append] at h4; exact h4.strs⟩
theorem MakePost.imp {P : Program} {w : World} {X : Type} {val : X → Value} {G : X → World → Prop} {s : Sem Next} (h : MakePost P w val G s) : MakePost P w val (fun _ _ => True) s := by
  obtain ⟨x, w', h1, h2, _⟩ := h; exact ⟨x, w', h1, h2, fun _ _ _ => trivial⟩
theorem words_len (m : List UInt8) : (wordsF m).length ≤ m.length + 1 := by
  unfold wordsF
  split
  · simp
  · rw [split_count]; have := List.count_le_length (a := (32 : UInt8)) (l := m); omega
theorem words_few {k : Nat} (h : m.length ≤ k) (hk : k ≤ 1000000 := by decide) : (unqAll (wordsF m)).length ≤ 100000000 := by
  have := words_len m
  have := unqAll_len (wordsF m)
  omega
theorem lines_len (m : List UInt8) : (linesN m).length ≤ m.length + 1 := by
  unfold linesN
  split
  · simp
  · rw [split_count]; have := List.count_le_length (a := (10 : UInt8)) (l := m.dropLast); simp at this; omega
theorem lines_few {k : Nat} (h : m.length ≤ k) (hk : k ≤ 1000000 := by decide) : (linesN m).length ≤ 100000000 := by
  have := lines_len m
  omega
set_option maxRecDepth 100000 in
set_option maxHeartbeats 1000000 in
theorem lawFields (hM : ML w) (hs : StrAt w A n ls) (hz : sumL ls + ls.length ≤ 1048576) : Calls Tryd.prog 4 #[.slice A n c, strOf m] w (CallPost w (fun _ : Unit => .bool true) fun _ _ => True) := by
  have hln := hs.1
  cases hF : fewB ls with
  | false =>
    refine Good.enter Tryd.func4 rfl ?_
    refine Good.run (by kernel_rfl) (stop := 1000) 1000 _ ?_
    refine Good.callv (fun w1 hw h => few_m (c := c) hF (hs.below hw)) (by kernel_rfl) (fun u => ?_)
    refine Good.run (by kernel_rfl) (stop := 1000) 1000 _ ?_
    refine Good.cond true (by kernel_rfl) ?_
    refine Good.run (by kernel_rfl) (stop := 1000) 1000 _ ?_
    refine Good.callv (fun w1 hw h => example5_m (hM.below hw)) (by kernel_rfl) (fun u => ?_)
    refine Good.run (by kernel_rfl) (stop := 1000) 1000 _ ?_
    refine Good.ret (v := .bool true) (by kernel_rfl) (fun w1 hw h => ⟨(), rfl, hw, fun _ _ _ => trivial⟩)
  | true =>
  by_cases hm : m.length ≤ 3000
  case neg =>
    refine Good.enter Tryd.func4 rfl ?_
    refine Good.run (by kernel_rfl) (stop := 1000) 1000 _ ?_
    refine Good.callv (fun w1 hw h => few_m (c := c) hF (hs.below hw)) (by kernel_rfl) (fun u => ?_)
    refine Good.run (by kernel_rfl) (stop := 1000) 1000 _ ?_
    refine Good.condr (decide ((m.length : Int) > 3000)) true (by kernel_rfl) (by simp; omega) ?_
    refine Good.run (by kernel_rfl) (stop := 1000) 1000 _ ?_
    refine Good.callv (fun w1 hw h => example5_m (hM.below hw)) (by kernel_rfl) (fun u => ?_)
    refine Good.run (by kernel_rfl) (stop := 1000) 1000 _ ?_
    refine Good.ret (v := .bool true) (by kernel_rfl) (fun w1 hw h => ⟨(), rfl, hw, fun _ _ _ => trivial⟩)
  cases hW : allW (wordsF m) with
  | true =>
    refine Good.enter Tryd.func4 rfl ?_
    refine Good.run (by kernel_rfl) (stop := 1000) 1000 _ ?_
    refine Good.callv (fun w1 hw h => few_m (c := c) hF (hs.below hw)) (by kernel_rfl) (fun u => ?_)
    refine Good.run (by kernel_rfl) (stop := 1000) 1000 _ ?_
    refine Good.condr (decide ((m.length : Int) > 3000)) false (by kernel_rfl) (by simp; omega) ?_
    refine Good.run (by kernel_rfl) (stop := 1000) 1000 _ ?_
    refine Good.callv (fun w1 hw h => sf_s (l := m) (hM.below hw) hW (by omega)) (by kernel_rfl) (fun a => ?_)
    refine Good.run (by kernel_rfl) (stop := 1000) 1000 _ ?_
    refine Good.callv (fun w1 hw h => rsf_s (l := m) hW (by omega)) (by kernel_rfl) (fun b => ?_)
    refine Good.run (by kernel_rfl) (stop := 0) 1000 _ ?_
    refine Good.make (litS 28 0 #[]) (litV 0) (fun g u => True) (by kernel_rfl) (fun w1 hw h => (make_nil (t := 28) (e := 9) (B := 0) (by kernel_rfl) (Nat.zero_le _)).imp) (fun y => ?_)
    refine Good.run (by kernel_rfl) (stop := 2) 1000 _ ?_
    refine Good.make (appS 28 28 (.slice (some ⟨y, 0, none⟩) 0 0) (.slice A n c)) (fun y : Option Addr × Nat => .slice y.1 n y.2) (fun y v => StrAt v y.1 n ls) (by kernel_rfl) (fun w1 hw h => app_all (hs.below hw) (by omega)) (fun y2 => ?_)
    refine Good.run (by kernel_rfl) (stop := 1000) 1000 _ ?_
    refine Good.callv (fun w1 hw h => joinFields_m (c := y2.2) h.2 (by omega) (by omega)) (by kernel_rfl) (fun u => ?_)
    refine Good.run (by kernel_rfl) (stop := 1000) 1000 _ ?_
    refine Good.callv (fun w1 hw h => rjoinFields_m (c := c) (hs.below hw) (by omega) (by omega)) (by kernel_rfl) (fun u => ?_)
    refine Good.run (by kernel_rfl) (stop := 6) 1000 _ ?_
    refine Good.ask (opS .eql 9 (.tmp 35) (.tmp 37) (strOf (joinF ls)) (strOf (joinF ls))) (.bool true) (by kernel_rfl) (fun w1 hw h => run_eqS (by simp)) ?_
    refine Good.run (by kernel_rfl) (stop := 1000) 1000 _ ?_
    refine Good.callv (fun w1 hw h => same_m (c := a.2) (c2 := b.2) (B := true) (xs := unqAll (wordsF m)) (bs := unqAll (wordsF m)) (by simp) h.1.1.1.1.1.2 h.1.1.1.1.2 (words_few (k := 3000) hm)) (by kernel_rfl) (fun u => ?_)
    refine Good.run (by kernel_rfl) (stop := 17) 1000 _ ?_
    refine Good.slot 48 (.bool (((0 : Int)) == 0)) (.bool true) (by kernel_rfl) (rfl) ?_
    refine Good.run (by kernel_rfl) (stop := 1000) 1000 _ ?_
    refine Good.callv (fun w1 hw h => example5_m (hM.below hw)) (by kernel_rfl) (fun u => ?_)
    refine Good.run (by kernel_rfl) (stop := 1000) 1000 _ ?_
    refine Good.ret (v := .bool true) (by kernel_rfl) (fun w1 hw h => ⟨(), rfl, hw, fun _ _ _ => trivial⟩)
  | false =>
    refine Good.enter Tryd.func4 rfl ?_
    refine Good.run (by kernel_rfl) (stop := 1000) 1000 _ ?_
    refine Good.callv (fun w1 hw h => few_m (c := c) hF (hs.below hw)) (by kernel_rfl) (fun u => ?_)
    refine Good.run (by kernel_rfl) (stop := 1000) 1000 _ ?_
    refine Good.condr (decide ((m.length : Int) > 3000)) false (by kernel_rfl) (by simp; omega) ?_
    refine Good.run (by kernel_rfl) (stop := 1000) 1000 _ ?_
    refine Good.callv (fun w1 hw h => sf_n (l := m) (hM.below hw) hW (by omega)) (by kernel_rfl) (fun a => ?_)
    refine Good.run (by kernel_rfl) (stop := 1000) 1000 _ ?_
    refine Good.callv (fun w1 hw h => rsf_n (l := m) hW (by omega)) (by kernel_rfl) (fun b => ?_)
    refine Good.run (by kernel_rfl) (stop := 0) 1000 _ ?_
    refine Good.make (litS 28 0 #[]) (litV 0) (fun g u => True) (by kernel_rfl) (fun w1 hw h => (make_nil (t := 28) (e := 9) (B := 0) (by kernel_rfl) (Nat.zero_le _)).imp) (fun y => ?_)
    refine Good.run (by kernel_rfl) (stop := 2) 1000 _ ?_
    refine Good.make (appS 28 28 (.slice (some ⟨y, 0, none⟩) 0 0) (.slice A n c)) (fun y : Option Addr × Nat => .slice y.1 n y.2) (fun y v => StrAt v y.1 n ls) (by kernel_rfl) (fun w1 hw h => app_all (hs.below hw) (by omega)) (fun y2 => ?_)
    refine Good.run (by kernel_rfl) (stop := 1000) 1000 _ ?_
    refine Good.callv (fun w1 hw h => joinFields_m (c := y2.2) h.2 (by omega) (by omega)) (by kernel_rfl) (fun u => ?_)
    refine Good.run (by kernel_rfl) (stop := 1000) 1000 _ ?_
    refine Good.callv (fun w1 hw h => rjoinFields_m (c := c) (hs.below hw) (by omega) (by omega)) (by kernel_rfl) (fun u => ?_)
    refine Good.run (by kernel_rfl) (stop := 6) 1000 _ ?_
    refine Good.ask (opS .eql 9 (.tmp 35) (.tmp 37) (strOf (joinF ls)) (strOf (joinF ls))) (.bool true) (by kernel_rfl) (fun w1 hw h => run_eqS (by simp)) ?_
    refine Good.run (by kernel_rfl) (stop := 1000) 1000 _ ?_
    refine Good.callv (fun w1 hw h => same_m (c := 0) (c2 := 0) (B := true) (xs := []) (bs := []) (by simp) strAt_nil strAt_nil (by simp)) (by kernel_rfl) (fun u => ?_)
    refine Good.run (by kernel_rfl) (stop := 17) 1000 _ ?_
    refine Good.slot 48 (.bool ((((unqAll (wordsF m)).length : Int)) == ((unqAll (wordsF m)).length : Int))) (.bool true) (by kernel_rfl) (by simp) ?_
    refine Good.run (by kernel_rfl) (stop := 1000) 1000 _ ?_
    refine Good.callv (fun w1 hw h => example5_m (hM.below hw)) (by kernel_rfl) (fun u => ?_)
    refine Good.run (by kernel_rfl) (stop := 1000) 1000 _ ?_
    refine Good.ret (v := .bool true) (by kernel_rfl) (fun w1 hw h => ⟨(), rfl, hw, fun _ _ _ => trivial⟩)
set_option maxRecDepth 100000 in
set_option maxHeartbeats 1000000 in
theorem lawLines (hM : ML w) (hs : StrAt w A n ls) (hz : sumL ls + ls.length ≤ 1048576) : Calls Tryd.prog 7 #[.slice A n c, strOf m] w (CallPost w (fun _ : Unit => .bool true) fun _ _ => True) := by
  have hln := hs.1
  cases hF : fewB ls with
  | false =>
    refine Good.enter Tryd.func7 rfl ?_
    refine Good.run (by kernel_rfl) (stop := 1000) 1000 _ ?_
    refine Good.callv (fun w1 hw h => few_m (c := c) hF (hs.below hw)) (by kernel_rfl) (fun u => ?_)
    refine Good.run (by kernel_rfl) (stop := 1000) 1000 _ ?_
    refine Good.cond true (by kernel_rfl) ?_
    refine Good.run (by kernel_rfl) (stop := 1000) 1000 _ ?_
    refine Good.callv (fun w1 hw h => example5_m (hM.below hw)) (by kernel_rfl) (fun u => ?_)
    refine Good.run (by kernel_rfl) (stop := 1000) 1000 _ ?_
    refine Good.ret (v := .bool true) (by kernel_rfl) (fun w1 hw h => ⟨(), rfl, hw, fun _ _ _ => trivial⟩)
  | true =>
  by_cases hm : m.length ≤ 5000
  case neg =>
    refine Good.enter Tryd.func7 rfl ?_
    refine Good.run (by kernel_rfl) (stop := 1000) 1000 _ ?_
    refine Good.callv (fun w1 hw h => few_m (c := c) hF (hs.below hw)) (by kernel_rfl) (fun u => ?_)
    refine Good.run (by kernel_rfl) (stop := 1000) 1000 _ ?_
    refine Good.condr (decide ((m.length : Int) > 5000)) true (by kernel_rfl) (by simp; omega) ?_
    refine Good.run (by kernel_rfl) (stop := 1000) 1000 _ ?_
    refine Good.callv (fun w1 hw h => example5_m (hM.below hw)) (by kernel_rfl) (fun u => ?_)
    refine Good.run (by kernel_rfl) (stop := 1000) 1000 _ ?_
    refine Good.ret (v := .bool true) (by kernel_rfl) (fun w1 hw h => ⟨(), rfl, hw, fun _ _ _ => trivial⟩)
  cases hW : okN m with
  | true =>
    refine Good.enter Tryd.func7 rfl ?_
    refine Good.run (by kernel_rfl) (stop := 1000) 1000 _ ?_
    refine Good.callv (fun w1 hw h => few_m (c := c) hF (hs.below hw)) (by kernel_rfl) (fun u => ?_)
    refine Good.run (by kernel_rfl) (stop := 1000) 1000 _ ?_
    refine Good.condr (decide ((m.length : Int) > 5000)) false (by kernel_rfl) (by simp; omega) ?_
    refine Good.run (by kernel_rfl) (stop := 1000) 1000 _ ?_
    refine Good.callv (fun w1 hw h => sl_s (l := m) (hM.below hw) hW (by omega)) (by kernel_rfl) (fun a => ?_)
    refine Good.run (by kernel_rfl) (stop := 1000) 1000 _ ?_
    refine Good.callv (fun w1 hw h => rsl_s (l := m) hW (by omega)) (by kernel_rfl) (fun b => ?_)
    refine Good.run (by kernel_rfl) (stop := 0) 1000 _ ?_
    refine Good.make (litS 28 0 #[]) (litV 0) (fun g u => True) (by kernel_rfl) (fun w1 hw h => (make_nil (t := 28) (e := 9) (B := 0) (by kernel_rfl) (Nat.zero_le _)).imp) (fun y => ?_)
    refine Good.run (by kernel_rfl) (stop := 2) 1000 _ ?_
    refine Good.make (appS 28 28 (.slice (some ⟨y, 0, none⟩) 0 0) (.slice A n c)) (fun y : Option Addr × Nat => .slice y.1 n y.2) (fun y v => StrAt v y.1 n ls) (by kernel_rfl) (fun w1 hw h => app_all (hs.below hw) (by omega)) (fun y2 => ?_)
    refine Good.run (by kernel_rfl) (stop := 1000) 1000 _ ?_
    refine Good.callv (fun w1 hw h => joinLines_m (c := y2.2) h.2 (by omega) (by omega)) (by kernel_rfl) (fun u => ?_)
    refine Good.run (by kernel_rfl) (stop := 1000) 1000 _ ?_
    refine Good.callv (fun w1 hw h => rjoinLines_m (c := c) (hs.below hw) (by omega) (by omega)) (by kernel_rfl) (fun u => ?_)
    refine Good.run (by kernel_rfl) (stop := 6) 1000 _ ?_
    refine Good.ask (opS .eql 9 (.tmp 31) (.tmp 33) (strOf (joinN ls)) (strOf (joinN ls))) (.bool true) (by kernel_rfl) (fun w1 hw h => run_eqS (by simp)) ?_
    refine Good.run (by kernel_rfl) (stop := 1000) 1000 _ ?_
    refine Good.callv (fun w1 hw h => same_m (c := a.2) (c2 := b.2) (B := true) (xs := linesN m) (bs := linesN m) (by simp) h.1.1.1.1.1.2 h.1.1.1.1.2 (lines_few (k := 5000) hm)) (by kernel_rfl) (fun u => ?_)
    refine Good.run (by kernel_rfl) (stop := 1000) 1000 _ ?_
    refine Good.callv (fun w1 hw h => example5_m (hM.below hw)) (by kernel_rfl) (fun u => ?_)
    refine Good.run (by kernel_rfl) (stop := 1000) 1000 _ ?_
    refine Good.ret (v := .bool true) (by kernel_rfl) (fun w1 hw h => ⟨(), rfl, hw, fun _ _ _ => trivial⟩)
  | false =>
    refine Good.enter Tryd.func7 rfl ?_
    refine Good.run (by kernel_rfl) (stop := 1000) 1000 _ ?_
    refine Good.callv (fun w1 hw h => few_m (c := c) hF (hs.below hw)) (by kernel_rfl) (fun u => ?_)
    refine Good.run (by kernel_rfl) (stop := 1000) 1000 _ ?_
    refine Good.condr (decide ((m.length : Int) > 5000)) false (by kernel_rfl) (by simp; omega) ?_
    refine Good.run (by kernel_rfl) (stop := 1000) 1000 _ ?_
    refine Good.callv (fun w1 hw h => sl_n (l := m) hW (by omega)) (by kernel_rfl) (fun a => ?_)
    refine Good.run (by kernel_rfl) (stop := 1000) 1000 _ ?_
    refine Good.callv (fun w1 hw h => rsl_n (l := m) hW (by omega)) (by kernel_rfl) (fun b => ?_)
    refine Good.run (by kernel_rfl) (stop := 0) 1000 _ ?_
    refine Good.make (litS 28 0 #[]) (litV 0) (fun g u => True) (by kernel_rfl) (fun w1 hw h => (make_nil (t := 28) (e := 9) (B := 0) (by kernel_rfl) (Nat.zero_le _)).imp) (fun y => ?_)
    refine Good.run (by kernel_rfl) (stop := 2) 1000 _ ?_
    refine Good.make (appS 28 28 (.slice (some ⟨y, 0, none⟩) 0 0) (.slice A n c)) (fun y : Option Addr × Nat => .slice y.1 n y.2) (fun y v => StrAt v y.1 n ls) (by kernel_rfl) (fun w1 hw h => app_all (hs.below hw) (by omega)) (fun y2 => ?_)
    refine Good.run (by kernel_rfl) (stop := 1000) 1000 _ ?_
    refine Good.callv (fun w1 hw h => joinLines_m (c := y2.2) h.2 (by omega) (by omega)) (by kernel_rfl) (fun u => ?_)
    refine Good.run (by kernel_rfl) (stop := 1000) 1000 _ ?_
    refine Good.callv (fun w1 hw h => rjoinLines_m (c := c) (hs.below hw) (by omega) (by omega)) (by kernel_rfl) (fun u => ?_)
    refine Good.run (by kernel_rfl) (stop := 6) 1000 _ ?_
    refine Good.ask (opS .eql 9 (.tmp 31) (.tmp 33) (strOf (joinN ls)) (strOf (joinN ls))) (.bool true) (by kernel_rfl) (fun w1 hw h => run_eqS (by simp)) ?_
    refine Good.run (by kernel_rfl) (stop := 1000) 1000 _ ?_
    refine Good.callv (fun w1 hw h => same_m (c := 0) (c2 := 0) (B := true) (xs := []) (bs := []) (by simp) strAt_nil strAt_nil (by simp)) (by kernel_rfl) (fun u => ?_)
    refine Good.run (by kernel_rfl) (stop := 1000) 1000 _ ?_
    refine Good.callv (fun w1 hw h => example5_m (hM.below hw)) (by kernel_rfl) (fun u => ?_)
    refine Good.run (by kernel_rfl) (stop := 1000) 1000 _ ?_
    refine Good.ret (v := .bool true) (by kernel_rfl) (fun w1 hw h => ⟨(), rfl, hw, fun _ _ _ => trivial⟩)
end

end Go.Proofs.YtgkiopplcpnajaaDoor
