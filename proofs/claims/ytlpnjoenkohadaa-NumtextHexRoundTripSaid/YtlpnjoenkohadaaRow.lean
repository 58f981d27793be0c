/-
  From an argument that was read as data to a slice of digits.
-/
import Derived.Test.YtlpnjoenkohadaaRd
import Derived.OpenShut
namespace Go.Proofs.Ytlpnjoenkohadaa
set_option linter.unusedVariables false
set_option linter.unusedSimpArgs false
open Go.RowKit

theorem in_of_row {w : World} {a : Option Addr} {len cap : Nat} {zs : List Int}
    (h : (a = none ∧ len = 0 ∧ cap = 0 ∧ zs = []) ∨ ∃ x, a = some x ∧ len ≤ cap ∧ cap ≤ maxLen ∧ zs.length = cap ∧ (∀ i, i < zs.length → w.cell? (x.add i) = some (.int .u32 (zs.getD i 0))) ∧ ∀ n ∈ zs, (Lit.int .u32 n).wf = true) :
    ∃ l, In w a len cap l := by
  rcases h with ⟨rfl, rfl, rfl, rfl⟩ | ⟨x, rfl, hl, hm, hz, hc, hwf⟩
  · exact ⟨[], In.nil_⟩
  · have hb : ∀ i, i < zs.length → 0 ≤ zs.getD i 0 ∧ zs.getD i 0 ≤ 4294967295 := by
      intro i hi
      have hmem : zs.getD i 0 ∈ zs := by
        rw [List.getD_eq_getElem?_getD, List.getElem?_eq_getElem hi]
        exact List.getElem_mem hi
      exact bounds_u32 (hwf _ hmem)
    have hlen : ((zs.take len).map Int.toNat).length = len := by rw [List.length_map, List.length_take]; omega
    have hget : ∀ i, i < len → (dg ((zs.take len).map Int.toNat) i : Int) = zs.getD i 0 := by
      intro i hi
      have h1 := hb i (by omega)
      have h2 : dg ((zs.take len).map Int.toNat) i = (zs.getD i 0).toNat := by
        simp [dg, List.getElem?_take, hi, List.getElem?_eq_getElem (show i < zs.length by omega)]
      rw [h2]; omega
    refine ⟨(zs.take len).map Int.toNat, ?_, hlen, hl, hm, ⟨by rw [u32s_length, hlen]; omega, fun h0 => ?_⟩⟩
    · intro i
      by_cases hi : i < len
      · have h1 := hb i (by omega)
        have h2 := hget i hi
        omega
      · rw [dg_out (by omega)]; omega
    · have hlt : x.block < w.heap.size := by
        have h1 := World.block_lt_of_cell? w (x.add 0) (hc 0 (by omega))
        rwa [block_of_add] at h1
      refine ⟨x, rfl, hlt, fun j u hu => ?_⟩
      have hj : j < len := by
        have := (List.getElem?_eq_some_iff.1 hu).1
        rw [u32s_length, hlen] at this; exact this
      rw [u32s_get (by rw [hlen]; exact hj), hget j hj] at hu
      rw [hc j (by omega)]; exact hu

end Go.Proofs.Ytlpnjoenkohadaa
