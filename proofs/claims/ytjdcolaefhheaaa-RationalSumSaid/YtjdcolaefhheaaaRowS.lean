/-
  A slice of fractions that was read as data.
-/
import Derived.Test.YtjdcolaefhheaaaRowA
import Derived.Test.YtjdcolaefhheaaaQs
import Derived.Deep.Slices
namespace Go.Proofs.Ytjdcolaefhheaaa
set_option linter.unusedVariables false
set_option linter.unusedSimpArgs false
open Go.RowKit

open Go.ChangeShapes Go.WideShapes Go.ChangeAt Go.RowKit Go.Deep Go.WideElems Go.Maps Go.Joins
theorem rats_of_trod {H : Type} {enc : TypeId × Value → H} {P : Program} {w : World} {base : Nat} {held : Bool} {T t u e : TypeId} {g0 g1 f0 f1 : Field} {fuel n c : Nat} {A : Option Addr} {x : DataW H × List MemPlace} (hT : P.underlying T = some (.slice t)) (hr : P.underlying t = some (.struct #[g0, g1])) (hR : P.cellsOf t = 4)
    (hg0 : g0.type = u ∧ g0.offset = 0) (hg1 : g1.type = u ∧ g1.offset = 2)
    (hs : P.underlying u = some (.struct #[f0, f1])) (hone : oneCellFields P #[f0, f1] = true) (hC : P.cellsOf u = 2)
    (h0 : P.underlying f0.type = some .bool) (h1 : P.underlying f1.type = some (.slice e)) (he : P.underlying e = some (.int .u32)) (hc : P.cellsOf e = 1)
    (h : DataW.trod enc P w base (fun _ => true) held fuel T [.slice A n c] = some x) : (∃ L : List RV, RowG w A n L) ∧ (n : Int) ≤ 9223372036854775807 := by
  rcases open_slice hT h with ⟨hcs, _⟩ | ⟨a, len, cap, m, k, D, Pl, hcs, _, hl, hm, hmm, _, hel⟩
  · simp only [List.cons.injEq, Value.slice.injEq, and_true] at hcs
    obtain ⟨rfl, rfl, rfl⟩ := hcs
    exact ⟨⟨[], ⟨rfl, fun k r hk => by simp at hk, fun r hr => by cases hr⟩⟩, by simp⟩
  · simp only [List.cons.injEq, Value.slice.injEq, and_true] at hcs
    obtain ⟨rfl, rfl, rfl⟩ := hcs
    have hex : ∀ i, ∃ r : RV, i < n → (∀ (j : Nat) (v : Value), r.cl[j]? = some v → w.cell? ((a.add (i * 4)).add j) = some v) ∧ In w r.a.A r.a.n r.a.c r.a.l ∧ In w r.b.A r.b.n r.b.c r.b.l := fun i => by
      by_cases hi : i < n
      · obtain ⟨cs', k1, k2⟩ := hel i (by rw [hmm]; simp; omega)
        obtain ⟨r, rfl, i1, i2⟩ := rat_of_trod hr hR hg0 hg1 hs hone hC h0 h1 he hc k2
        rw [hR] at k1
        obtain ⟨_, _, k3⟩ := World.cells?_some k1
        refine ⟨r, fun _ => ⟨fun j v hv => ?_, i1, i2⟩⟩
        rw [k3 j (List.getElem?_eq_some_iff.1 hv).1]
        exact hv
      · exact ⟨RV0, fun h => absurd h hi⟩
    refine ⟨⟨(List.range n).map fun i => Classical.choose (hex i), ⟨by simp, fun i r hi => ?_, fun r hr => ?_⟩⟩, ?_⟩
    · rw [List.getElem?_map] at hi
      cases hq : (List.range n)[i]? with
      | none => rw [hq] at hi; cases hi
      | some i' =>
        rw [hq] at hi
        injection hi with hi
        obtain ⟨h5, h6⟩ := List.getElem?_eq_some_iff.1 hq
        obtain rfl : i = i' := by simpa using h6
        subst hi
        exact ⟨a, rfl, (Classical.choose_spec (hex i) (by simpa using h5)).1⟩
    · obtain ⟨i, hi, rfl⟩ := List.mem_map.1 hr
      exact (Classical.choose_spec (hex i) (by simpa using hi)).2
    · have : (maxLen : Int) ≤ 9223372036854775807 := by unfold maxLen; omega
      omega

end Go.Proofs.Ytjdcolaefhheaaa
