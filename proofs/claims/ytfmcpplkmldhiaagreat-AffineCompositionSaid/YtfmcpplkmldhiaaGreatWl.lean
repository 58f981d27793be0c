/-
  Walks over natural: Parse.
-/
import Derived.Test.YtfmcpplkmldhiaaGreatWk
import Derived.Deep.RegionWith
namespace Go.Proofs.YtfmcpplkmldhiaaGreat
set_option linter.unusedVariables false
set_option linter.unusedSimpArgs false
open Go.RowKit

/-- A reader of text: the digits in new memory and an error code. -/
def ParsePost (w : World) (l : List UInt8) (e : Ending) (w' : World) : Prop :=
  ∃ A n c d, e = .returned (.tuple #[.slice A n c, .int .i64 (parseE l)]) ∧ Norm d ∧ val d = parseV l ∧ Own w' w.heap.size A n c d ∧ Below w.heap.size w w'
theorem ParsePost.bad {w : World} {l : List UInt8} {v : Int} (h : parseE l = v) (hv : v ≠ 0) {e : Ending} (he : e = .returned (.tuple #[.slice none 0 0, .int .i64 v])) : ParsePost w l e w :=
  ⟨none, 0, 0, [], by rw [he, h], Norm.nil, by unfold parseV; rw [if_neg (by omega)]; rfl, Own.nil_, Below.refl _ _⟩
theorem byte_at (s : ByteArray) {k : Nat} (h : k < s.size) : s.data.toList[k]? = some s[k] := by
  rw [List.getElem?_eq_getElem (by simpa using h)]; rfl
theorem isDB_bad {l : List UInt8} {k : Nat} {b : UInt8} (h : l[k]? = some b) (hb : ¬ (48 ≤ b.toNat ∧ b.toNat < 58)) : isDB l = false := by
  rcases hx : isDB l with _ | _
  · rfl
  · exact absurd ((isDB_iff l).1 hx b (List.mem_of_getElem? h)) hb
theorem isDB_good {l : List UInt8} (h : ∀ (k : Nat) (b : UInt8), l[k]? = some b → 48 ≤ b.toNat ∧ b.toNat < 58) : isDB l = true := by
  rw [isDB_iff]
  intro b hb
  obtain ⟨k, hk⟩ := List.getElem?_of_mem hb
  exact h k b hk

end Go.Proofs.YtfmcpplkmldhiaaGreat
