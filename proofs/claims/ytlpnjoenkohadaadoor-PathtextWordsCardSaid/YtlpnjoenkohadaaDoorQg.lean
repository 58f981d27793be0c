/-
  The laws of fractions: what their functions call.
-/
import Derived.Test.YtlpnjoenkohadaaDoorQP
namespace Go.Proofs.YtlpnjoenkohadaaDoor
set_option linter.unusedVariables false
set_option linter.unusedSimpArgs false
open Go.RowKit

/-- A literal number of one digit. -/
def lit1 (s : Bool) (g d : Nat) : SV := ⟨s, some ⟨g, 0, none⟩, 1, 1, [d]⟩
theorem lit1_n {t : TypeId} {g d : Nat} {s : Bool} {w : World} {x : Int} (h : litG t #[.int .u32 (d : Int)] g w) (h0 : d ≠ 0) (hd : d < 4294967296) (hx : zi s d = x) (hs : s = decide (x < 0)) : IsN (lit1 s g d) x 1 w := by
  have hmk : Mk w g t [d] := h
  have ho := hmk.own (B := 0) (Dig.one hd) (by omega) (by simp [maxLen])
  refine ⟨⟨ho.toIn, ?_, Nat.le_refl _⟩, ⟨Dig.one hd, .inr ?_⟩, hs, ho⟩
  · show zi s (val [d]) = x
    rw [← hx]; simp [val]
  · show dg [d] 0 ≠ 0
    simpa [dg] using h0
theorem sameB_nn {v z : SV} {x y : Int} {K K' : Nat} {w w' : World} (hv : IsN v x K w) (hz : IsN z y K' w') : sameB v z = decide (x = y) := by
  rw [sameB_norm hv.i hz, isn_n2 hv, Bool.true_and]
theorem sameQB_nn {a b : RV} {p q : Rat} {K K' : Nat} {w w' : World} (ha : IsQN a p K w) (hb : IsQN b q K' w') : sameQB a b = decide (p = q) := by
  unfold sameQB
  rw [sameB_nn ha.1 hb.1, sameB_nn ha.2 hb.2]
  by_cases e : p = q
  · subst e; simp
  · rw [decide_eq_false e]
    by_cases h : p.num = q.num
    · rw [decide_eq_false (fun (k : (p.den : Int) = q.den) => e (Rat.ext h (by omega)))]; simp
    · rw [decide_eq_false h]; rfl
theorem isI0 (w : World) : IsI SV0 0 2 w := ⟨In.nil_, rfl, by decide⟩
theorem isQ0 (w : World) : IsQ RV0 0 2 w := ⟨0, 0, isI0 w, isI0 w, by rw [divInt_zero']⟩

section
variable {a b : RV} {p q : Rat} {K K1 K2 : Nat} {w : World}
theorem isnQ_n (ha : IsQN a p K w) : isnQ a p.num p.den = true := by
  unfold isnQ
  rw [Rat.num_divInt_den, isn_n2 ha.1, isn_n2 ha.2, decide_eq_true (by have := p.den_nz; omega), decide_eq_true rfl, decide_eq_true rfl]; rfl
def smallB (a : RV) : Bool := decide (a.a.n ≤ 40) && decide (a.b.n ≤ 40)
end
end Go.Proofs.YtlpnjoenkohadaaDoor
