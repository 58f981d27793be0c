/-
  Walks over natural: slices.Reverse at bytes, Format.
-/
import Derived.Test.YtfmcpplkmldhiaaGreatWj
import Derived.Test.YtfmcpplkmldhiaaGreatNumE
import Derived.BigRegion
namespace Go.Proofs.YtfmcpplkmldhiaaGreat
set_option linter.unusedVariables false
set_option linter.unusedSimpArgs false
open Go.RowKit

def u8s (l : List UInt8) : List Value := l.map fun (b : UInt8) => Value.int .u8 (b.toNat : Int)
theorem u8s_length (l : List UInt8) : (u8s l).length = l.length := by simp [u8s]
theorem u8s_get {l : List UInt8} {i : Nat} (h : i < l.length) : (u8s l)[i]? = some (.int .u8 (l[i].toNat : Int)) := by simp [u8s, h]
theorem u8s_append (a b : List UInt8) : u8s (a ++ b) = u8s a ++ u8s b := by simp [u8s]
theorem u8s_one {l : List UInt8} : ∀ u ∈ u8s l, u.oneCell' = true := by
  intro u hu
  simp only [u8s, List.mem_map] at hu
  obtain ⟨d, _, rfl⟩ := hu
  rfl
theorem u8s_set (l : List UInt8) (i : Nat) (b : UInt8) : (u8s l).set i (.int .u8 (b.toNat : Int)) = u8s (l.set i b) := by
  simp [u8s, List.map_set]
/-- The first cells of block g are xs. -/
def RowV (w : World) (g t cap : Nat) (xs : List Value) : Prop :=
  ∃ cur, w.heap[g]? = some (.cells cur t (0, 0)) ∧ cur.size = cap ∧ xs.length ≤ cap ∧ cur.toList.take xs.length = xs
section
variable {w w' : World} {g t cap : Nat} {xs : List Value}
theorem RowV.cell (h : RowV w g t cap xs) {i : Nat} (hi : i < xs.length) : w.cell? ⟨g, i, none⟩ = xs[i]? := by
  obtain ⟨cur, hg, hs, hl, ht⟩ := h
  have e : (cur.toList.take xs.length)[i]? = xs[i]? := by rw [ht]
  rw [List.getElem?_take, if_pos hi] at e
  rw [cell_of_row w g i cur t (0, 0) hg, ← e]
  simp
theorem RowV.frozen (h : RowV w g t cap xs) (i : Nat) : w.frozen? ⟨g, i, none⟩ = false := by
  obtain ⟨cur, hg, _⟩ := h
  simp [World.frozen?, hg]
theorem RowV.set_ (h : RowV w g t cap xs) (i : Nat) (v : Value) : RowV (w.setCell ⟨g, i, none⟩ v) g t cap (xs.set i v) := by
  obtain ⟨cur, hg, hs, hl, ht⟩ := h
  refine ⟨cur.setIfInBounds i v, by simp [World.setCell, Array.getElem?_modify, hg], by simpa using hs, by simpa using hl, ?_⟩
  rw [List.length_set, Array.toList_setIfInBounds, List.take_set, ht]
theorem RowV.lt (h : RowV w g t cap xs) : g < w.heap.size := by
  obtain ⟨cur, hg, _⟩ := h
  exact (Array.getElem?_eq_some_iff.1 hg).1
theorem RowV.drewN (h : RowV w g t cap xs) (q : Nat) : RowV (w.drewN q) g t cap xs := h
theorem RowV.drew (h : RowV w g t cap xs) : RowV w.drew g t cap xs := h
theorem RowV.below {B : Nat} (h : RowV w g t cap xs) (hb : Below B w w') (hg : g < B) : RowV w' g t cap xs := by
  obtain ⟨cur, hh, r⟩ := h
  exact ⟨cur, (hb.block g hg).trans hh, r⟩
theorem RowV.take (h : RowV w g t cap xs) (k : Nat) : RowV w g t cap (xs.take k) := by
  obtain ⟨cur, hg, hs, hl, ht⟩ := h
  refine ⟨cur, hg, hs, by rw [List.length_take]; omega, ?_⟩
  rw [List.length_take, ← List.take_take, ht, List.take_eq_take_min]
theorem RowV.of_row {B n : Nat} {v : Value} (h : w.ownsRow B t 1 v n xs) (h0 : 0 < n) : ∃ g c, v = .slice (some ⟨g, 0, none⟩) n c ∧ B ≤ g ∧ n ≤ c ∧ c ≤ maxLen ∧ RowV w g t c xs := by
  have hl := h.1
  rcases h.2 with ⟨_, h1⟩ | ⟨g, c, cur, hv, hg, hh, hn, hc, hs, ht⟩
  · omega
  · exact ⟨g, c, hv, hg, hn, hc, cur, hh, by omega, by omega, by rw [show xs.length = n * 1 from hl]; exact ht⟩
end

/-- The first i pairs exchanged. -/
def RevAt (l r : List UInt8) (i : Nat) : Prop := r.length = l.length ∧ ∀ t, t < l.length → r[t]? = if t < i ∨ l.length ≤ t + i then l[l.length - 1 - t]? else l[t]?
theorem RevAt.zero (l : List UInt8) : RevAt l l 0 := ⟨rfl, fun t ht => by rw [if_neg (by omega)]⟩
theorem RevAt.done {l r : List UInt8} {i : Nat} (h : RevAt l r i) (hi : l.length ≤ 2 * i + 1) : r = l.reverse := by
  apply List.ext_getElem? 
  intro t
  by_cases ht : t < l.length
  · rw [h.2 t ht, List.getElem?_reverse ht]
    split
    · rfl
    · congr 1; omega
  · rw [List.getElem?_eq_none (by rw [h.1]; omega), List.getElem?_eq_none (by rw [List.length_reverse]; omega)]
theorem RevAt.step {l r : List UInt8} {i : Nat} (h : RevAt l r i) (hi : 2 * i + 1 < l.length) {a b : UInt8} (ha : r[i]? = some a) (hb : r[l.length - 1 - i]? = some b) :
    RevAt l ((r.set i b).set (l.length - 1 - i) a) (i + 1) := by
  have ha' := h.2 i (by omega)
  rw [if_neg (by omega), ha] at ha'
  have hb' := h.2 (l.length - 1 - i) (by omega)
  rw [if_neg (by omega), hb] at hb'
  refine ⟨by rw [List.length_set, List.length_set]; exact h.1, fun t ht => ?_⟩
  rw [List.getElem?_set, List.getElem?_set]
  by_cases h1 : l.length - 1 - i = t
  · subst h1
    rw [if_pos rfl, if_pos (by rw [List.length_set, h.1]; omega), if_pos (by omega), ha']
    congr 1; omega
  · rw [if_neg h1]
    by_cases h2 : i = t
    · subst h2
      rw [if_pos rfl, if_pos (by rw [h.1]; omega), if_pos (by omega), hb']
    · rw [if_neg h2, h.2 t ht]
      by_cases h3 : t < i ∨ l.length ≤ t + i
      · rw [if_pos h3, if_pos (by omega)]
      · rw [if_neg h3, if_neg (by omega)]

theorem Tryz.info_u8 : (Tryz.prog.info? 5).map (fun i => (i.zero, i.size, i.bytes)) = some (some (.int .u8 0), 1, 1) := by kernel_rfl
def strOf (l : List UInt8) : Value := .string ⟨l.toArray⟩

theorem only_of_below {a w : World} (h : Below a.heap.size a w) (row : Option Nat) : a.grownBy w row := ⟨h.os, h.tape, h.output, h.size, fun i hi _ => h.block i hi⟩

theorem Own.mid {w w' : World} {B : Nat} {A : Option Addr} {n c : Nat} {l : List Nat} (h : Own w B A n c l) (hs : w.heap.size ≤ w'.heap.size) (hk : ∀ k, B ≤ k → k < w.heap.size → w'.heap[k]? = w.heap[k]?) : Own w' B A n c l := by
  have key : 0 < c → ∃ g cur t, A = some ⟨g, 0, none⟩ ∧ B ≤ g ∧ w'.heap[g]? = some (.cells cur t (0, 0)) ∧ c ≤ cur.size ∧ w'.heap[g]? = w.heap[g]? := by
    intro h0
    obtain ⟨g, cur, t, hA, hg, hh, hc⟩ := h.own h0
    have e := hk g hg (Array.getElem?_eq_some_iff.1 hh).1
    exact ⟨g, cur, t, hA, hg, e.trans hh, hc, e⟩
  refine ⟨⟨h.dig, h.len, h.le, h.cap, ⟨h.rd.1, fun hn => ?_⟩⟩, fun h0 => ?_⟩
  · obtain ⟨ad, hA, hb, hc⟩ := h.rd.2 hn
    obtain ⟨g, cur, t, hA2, _, _, _, e⟩ := key (Nat.lt_of_lt_of_le hn h.le)
    refine ⟨ad, hA, Nat.lt_of_lt_of_le hb hs, fun j u hu => ?_⟩
    rw [hA] at hA2
    injection hA2 with hA2
    subst hA2
    have := hc j u hu
    rw [add_off] at this ⊢
    rw [World.cell?_of_block (w := w) e]
    exact this
  · obtain ⟨g, cur, t, hA, hg, hh, hc, _⟩ := key h0
    exact ⟨g, cur, t, hA, hg, hh, hc⟩

def sliceLen : Value → Nat | .slice _ n _ => n | _ => 0

theorem chr_int {d : Nat} (h : d < 10) : ((48 : Int) + (d : Int)) % 256 = ((chr d).toNat : Int) := by
  rw [chr_toNat h]; omega

end Go.Proofs.YtfmcpplkmldhiaaGreat
