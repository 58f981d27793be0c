/-
  From arguments that were read as data to numbers; a law's end.
-/
import Derived.Test.YtlpnjoenkohadaaRow
import Derived.Lib.SmallJoins
import Derived.ChangeSlices
import Derived.Test.YtlpnjoenkohadaaQP
namespace Go.Proofs.Ytlpnjoenkohadaa
set_option linter.unusedVariables false
set_option linter.unusedSimpArgs false
open Go.RowKit

open Go.ChangeShapes Go.WideShapes Go.ChangeAt Go.RowKit Go.Deep Go.WideElems Go.Maps Go.Joins

variable {H : Type} {enc : TypeId × Value → H} {P : Program} {w : World} {base : Nat} {held : Bool}

theorem slice_of_read {t e : TypeId} {fuel : Nat} {v : Value} {x : DataW H × List MemPlace} (ht : P.underlying t = some (.slice e)) (he : P.underlying e = some (.int .u32)) (hc : P.cellsOf e = 1)
    (h : DataW.trod enc P w base (fun _ => true) held fuel t [v] = some x) : ∃ A n c l, v = .slice A n c ∧ In w A n c l := by
  rcases open_ints ht he hc h with ⟨hcs, _⟩ | ⟨a, l, c, zs, hcs, _, hl, hm, hz, _, hcell, hwz⟩
  · simp at hcs
    subst hcs
    exact ⟨none, 0, 0, [], rfl, In.nil_⟩
  · simp at hcs
    subst hcs
    obtain ⟨l', hin⟩ := in_of_row (w := w) (a := some a) (len := l) (cap := c) (zs := zs) (.inr ⟨_, rfl, hl, hm, by simpa using hz, hcell, hwz⟩)
    exact ⟨_, _, _, l', rfl, hin⟩

theorem int_of_read {r : Reach} {b0 : Nat} {t e : TypeId} {f0 f1 : Field} {v : Value} {d : DataW H} {p : List MemPlace} (hs : P.underlying t = some (.struct #[f0, f1])) (hone : oneCellFields P #[f0, f1] = true) (hC : P.cellsOf t = 2)
    (h0 : P.underlying f0.type = some .bool) (h1 : P.underlying f1.type = some (.slice e)) (he : P.underlying e = some (.int .u32)) (hc : P.cellsOf e = 1)
    (hv : Value.okWide P w r b0 t v) (h : DataW.Trod enc P w base (fun _ => true) held t v d p) :
    ∃ sa A n c l, v = .agg #[.bool sa, .slice A n c] ∧ In w A n c l := by
  obtain ⟨v0, v1, y0, y1, m, rfl, rfl, rfl, hy0, hy1⟩ := open_agg2 hs hone hC hv h
  obtain ⟨b, hb, _⟩ := DataW.trod_bool h0 hy0
  simp at hb
  subst hb
  obtain ⟨A, n, c, l, rfl, hin⟩ := slice_of_read h1 he hc hy1
  exact ⟨b, A, n, c, l, rfl, hin⟩

open Go.ChangeShapes Go.WideShapes Go.ChangeAt Go.RowKit Go.Deep Go.WideElems Go.Maps Go.Joins

section
variable {H : Type} {enc : TypeId × Value → H} {P : Program} {w : World} {base : Nat} {held : Bool}

theorem int_of_trod {t e : TypeId} {f0 f1 : Field} {fuel : Nat} {cs : List Value} {x : DataW H × List MemPlace} (hs : P.underlying t = some (.struct #[f0, f1])) (hone : oneCellFields P #[f0, f1] = true) (hC : P.cellsOf t = 2)
    (h0 : P.underlying f0.type = some .bool) (h1 : P.underlying f1.type = some (.slice e)) (he : P.underlying e = some (.int .u32)) (hc : P.cellsOf e = 1)
    (h : DataW.trod enc P w base (fun _ => true) held fuel t cs = some x) : ∃ v : SV, cs = [.bool v.s, .slice v.A v.n v.c] ∧ In w v.A v.n v.c v.l := by
  obtain ⟨y0, y1, n, hx, hl, hy0, hy1⟩ := trod_struct2 hs h
  obtain ⟨o0, k0⟩ := hone_of hone 0 f0 rfl
  obtain ⟨o1, k1⟩ := hone_of hone 1 f1 rfl
  rw [hC] at hl
  match cs, hl with
  | [c0, c1], _ =>
    have g0 : DataW.trod enc P w base (fun _ => true) held n f0.type [c0] = some y0 := by simpa [o0, k0] using hy0
    have g1 : DataW.trod enc P w base (fun _ => true) held n f1.type [c1] = some y1 := by simpa [o1, k1] using hy1
    obtain ⟨b, hb, _⟩ := DataW.trod_bool h0 g0
    simp at hb
    subst hb
    obtain ⟨A, m, c, l, rfl, hin⟩ := slice_of_read h1 he hc g1
    exact ⟨⟨b, A, m, c, l⟩, rfl, hin⟩
theorem rat_of_trod {t u e : TypeId} {g0 g1 f0 f1 : Field} {fuel : Nat} {cs : List Value} {x : DataW H × List MemPlace} (hr : P.underlying t = some (.struct #[g0, g1])) (hR : P.cellsOf t = 4)
    (hg0 : g0.type = u ∧ g0.offset = 0) (hg1 : g1.type = u ∧ g1.offset = 2)
    (hs : P.underlying u = some (.struct #[f0, f1])) (hone : oneCellFields P #[f0, f1] = true) (hC : P.cellsOf u = 2)
    (h0 : P.underlying f0.type = some .bool) (h1 : P.underlying f1.type = some (.slice e)) (he : P.underlying e = some (.int .u32)) (hc : P.cellsOf e = 1)
    (h : DataW.trod enc P w base (fun _ => true) held fuel t cs = some x) : ∃ r : RV, cs = [.bool r.a.s, .slice r.a.A r.a.n r.a.c, .bool r.b.s, .slice r.b.A r.b.n r.b.c] ∧ In w r.a.A r.a.n r.a.c r.a.l ∧ In w r.b.A r.b.n r.b.c r.b.l := by
  obtain ⟨y0, y1, n, hx, hl, hy0, hy1⟩ := trod_struct2 hr h
  rw [hR] at hl
  match cs, hl with
  | [c0, c1, c2, c3], _ =>
    rw [hg0.1, hg0.2, hC] at hy0
    rw [hg1.1, hg1.2, hC] at hy1
    obtain ⟨a, ha, ia⟩ := int_of_trod hs hone hC h0 h1 he hc hy0
    obtain ⟨b, hb, ib⟩ := int_of_trod hs hone hC h0 h1 he hc hy1
    simp only [List.drop_zero, List.take_succ_cons, List.take_zero, List.drop_succ_cons, List.cons.injEq, and_true] at ha hb
    obtain ⟨rfl, rfl⟩ := ha
    obtain ⟨rfl, rfl⟩ := hb
    exact ⟨⟨a, b⟩, rfl, ia, ib⟩
theorem rat_of_read {r : Reach} {b0 : Nat} {t u e : TypeId} {g0 g1 f0 f1 : Field} {v : Value} {d : DataW H} {p : List MemPlace} (hr : P.underlying t = some (.struct #[g0, g1])) (hR : P.cellsOf t = 4)
    (hg0 : g0.type = u ∧ g0.offset = 0) (hg1 : g1.type = u ∧ g1.offset = 2)
    (hs : P.underlying u = some (.struct #[f0, f1])) (hone : oneCellFields P #[f0, f1] = true) (hC : P.cellsOf u = 2)
    (h0 : P.underlying f0.type = some .bool) (h1 : P.underlying f1.type = some (.slice e)) (he : P.underlying e = some (.int .u32)) (hc : P.cellsOf e = 1)
    (hv : Value.okWide P w r b0 t v) (h : DataW.Trod enc P w base (fun _ => true) held t v d p) : ∃ q : RV, v = q.val ∧ In w q.a.A q.a.n q.a.c q.a.l ∧ In w q.b.A q.b.n q.b.c q.b.l := by
  obtain ⟨⟨l⟩, rfl, hsz⟩ := okWide_struct hr hv
  obtain ⟨fuel, hf⟩ := h
  obtain ⟨q, hq, i, j⟩ := rat_of_trod hr hR hg0 hg1 hs hone hC h0 h1 he hc hf
  refine ⟨q, ?_, i, j⟩
  simp only [Value.cells] at hq
  show Value.agg ⟨l⟩ = _
  rw [hq]
end
/-- A law's end. -/
theorem law_end {w w' : World} {e : Ending} (h : CallPost w (fun _ : Unit => .bool true) (fun _ _ => True) e w') : e = .returned (.bool true) ∧ Below w.heap.size w w' := by
  obtain ⟨_, h1, h2, _⟩ := h
  exact ⟨h1, h2⟩
theorem of_in {v : SV} {K : Nat} {w : World} (i : In w v.A v.n v.c v.l) (hK : v.n ≤ K) : IsI v (zi v.s (val v.l)) K w := ⟨i, rfl, hK⟩
theorem of_in0 {s : Bool} {A : Option Addr} {n c : Nat} {l : List Nat} {w : World} (i : In w A n c l) : IsI ⟨s, A, n, c, l⟩ (zi s (val l)) n w := ⟨i, rfl, Nat.le_refl _⟩
theorem rat_in {q : RV} {w : World} (i : In w q.a.A q.a.n q.a.c q.a.l) (j : In w q.b.A q.b.n q.b.c q.b.l) : IsI q.a (zi q.a.s (val q.a.l)) (max q.a.n q.b.n) w ∧ IsI q.b (zi q.b.s (val q.b.l)) (max q.a.n q.b.n) w :=
  ⟨of_in i (Nat.le_max_left _ _), of_in j (Nat.le_max_right _ _)⟩
theorem i64_wf {z : Int} (h : (Lit.int .i64 z).wf = true) : -9223372036854775808 ≤ z ∧ z ≤ 9223372036854775807 := by
  simp only [Lit.wf, Bool.and_eq_true, decide_eq_true_eq] at h
  exact ⟨h.1, h.2⟩

end Go.Proofs.Ytlpnjoenkohadaa
