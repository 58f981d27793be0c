/-
  Walks over natural: take.
-/
import Derived.Test.YtlpnjoenkohadaaDoorWf
namespace Go.Proofs.YtlpnjoenkohadaaDoor
set_option linter.unusedVariables false
set_option linter.unusedSimpArgs false
open Go.RowKit

/-- The first cells of block g are the digits l. -/
def MkC (w : World) (g t cap : Nat) (l : List Nat) : Prop :=
  ∃ cur, w.heap[g]? = some (.cells cur t (0, 0)) ∧ cur.size = cap ∧ l.length ≤ cap ∧ cur.toList.take l.length = u32s l
section
variable {w w' : World} {g t cap : Nat} {l : List Nat}
theorem MkC.cell (h : MkC w g t cap l) {i : Nat} (hi : i < l.length) : w.cell? ⟨g, i, none⟩ = some (.int .u32 (dg l i : Int)) := by
  obtain ⟨cur, hg, hs, hl, ht⟩ := h
  rw [cell_of_row w g i cur t (0, 0) hg, ← u32s_get hi, ← ht, List.getElem?_take, if_pos hi]
  simp
theorem MkC.frozen (h : MkC w g t cap l) (i : Nat) : w.frozen? ⟨g, i, none⟩ = false := by
  obtain ⟨cur, hg, _⟩ := h
  simp [World.frozen?, hg]
theorem MkC.set_ (h : MkC w g t cap l) {i : Nat} (hi : i < l.length) (d : Nat) : MkC (w.setCell ⟨g, i, none⟩ (.int .u32 (d : Int))) g t cap (l.set i d) := by
  obtain ⟨cur, hg, hs, hl, ht⟩ := h
  refine ⟨cur.setIfInBounds i (.int .u32 (d : Int)), by simp [World.setCell, Array.getElem?_modify, hg], by simpa using hs, by simpa using hl, ?_⟩
  rw [List.length_set, ← u32s_set, ← ht, Array.toList_setIfInBounds, List.take_set]
theorem MkC.lt (h : MkC w g t cap l) : g < w.heap.size := by
  obtain ⟨cur, hg, _⟩ := h
  exact (Array.getElem?_eq_some_iff.1 hg).1
theorem MkC.below {B : Nat} (h : MkC w g t cap l) (hb : Below B w w') (hg : g < B) : MkC w' g t cap l := by
  obtain ⟨cur, hh, r⟩ := h
  exact ⟨cur, (hb.block g hg).trans hh, r⟩
theorem MkC.drewN (h : MkC w g t cap l) (q : Nat) : MkC (w.drewN q) g t cap l := h
theorem MkC.far (h : MkC w g t cap l) {p : Addr} (hp : g ≠ p.block) (u : Value) : MkC (w.setCell p u) g t cap l := by
  obtain ⟨cur, hh, r⟩ := h
  exact ⟨cur, (Below.heap_setCell w p u g hp).trans hh, r⟩
theorem MkC.alloc (h : MkC w g t cap l) (o : Obj) : MkC (w.alloc o) g t cap l := by
  obtain ⟨cur, hh, r⟩ := h
  exact ⟨cur, (Below.heap_alloc w o g (Array.getElem?_eq_some_iff.1 hh).1).trans hh, r⟩
theorem MkC.of_row {B n : Nat} {v : Value} (h : w.ownsRow B t 1 v n (u32s l)) (hl : l.length = n) (h0 : 0 < n) : ∃ g c, v = .slice (some ⟨g, 0, none⟩) n c ∧ B ≤ g ∧ n ≤ c ∧ c ≤ maxLen ∧ MkC w g t c l := by
  rcases h.2 with ⟨_, h1⟩ | ⟨g, c, cur, hv, hg, hh, hn, hc, hs, ht⟩
  · omega
  · exact ⟨g, c, hv, hg, hn, hc, cur, hh, by omega, by omega, by rw [hl, ← ht, Nat.mul_one]⟩
theorem add_off (g k j : Nat) : (⟨g, k, none⟩ : Addr).add j = ⟨g, k + j, none⟩ := by
  unfold Addr.add; split <;> simp_all
theorem MkC.part (h : MkC w g t cap l) (hd : Dig l) {k n c : Nat} (hk : k + n ≤ l.length) (hc : n ≤ c) (hm : c ≤ maxLen) : In w (some ⟨g, k, none⟩) n c ((l.drop k).take n) := by
  refine ⟨(hd.drop k).take n, by rw [List.length_take, List.length_drop]; omega, hc, hm, ⟨by rw [u32s_length, List.length_take, List.length_drop]; omega, fun _ => ⟨_, rfl, h.lt, fun j u hu => ?_⟩⟩⟩
  have hj : j < n := by
    have := (List.getElem?_eq_some_iff.1 hu).1
    rw [u32s_length, List.length_take, List.length_drop] at this; omega
  rw [u32s_get (by rw [List.length_take, List.length_drop]; omega)] at hu
  rw [add_off, h.cell (by omega), ← hu, dg_take hj, dg_drop]
end

/-- .. reading only blocks below B. -/
structure InB (w : World) (B : Nat) (A : Option Addr) (n c : Nat) (l : List Nat) : Prop where
  dig : Dig l
  len : l.length = n
  le : n ≤ c
  cap : c ≤ maxLen
  rd : Reads w B 1 A n (u32s l)
theorem In.toB {w : World} {A : Option Addr} {n c : Nat} {l : List Nat} (h : In w A n c l) : InB w w.heap.size A n c l := ⟨h.dig, h.len, h.le, h.cap, h.rd⟩
theorem InB.toIn {w : World} {B : Nat} {A : Option Addr} {n c : Nat} {l : List Nat} (h : InB w B A n c l) (hB : B ≤ w.heap.size) : In w A n c l := ⟨h.dig, h.len, h.le, h.cap, h.rd.more hB⟩
theorem InB.below {w w' : World} {B : Nat} {A : Option Addr} {n c : Nat} {l : List Nat} (h : InB w B A n c l) (hb : Below B w w') : InB w' B A n c l := ⟨h.dig, h.len, h.le, h.cap, h.rd.below hb⟩
theorem InB.more {w : World} {B B' : Nat} {A : Option Addr} {n c : Nat} {l : List Nat} (h : InB w B A n c l) (hB : B ≤ B') : InB w B' A n c l := ⟨h.dig, h.len, h.le, h.cap, h.rd.more hB⟩
theorem InB.at_ {w : World} {B : Nat} {A : Option Addr} {n c : Nat} {l : List Nat} (h : InB w B A n c l) {k : Nat} (hk : k < n) : ∃ ad, A = some ad ∧ w.cell? (ad.add k) = some (.int .u32 (dg l k : Int)) := by
  obtain ⟨ad, u, hA, _, hu, hc⟩ := h.rd.at_ hk
  rw [u32s_get (by rw [h.len]; exact hk)] at hu
  injection hu with hu
  subst hu
  exact ⟨ad, hA, hc⟩

theorem only_drewN {a w : World} {row : Option Nat} (h : a.grownBy w row) (n : Nat) : a.grownBy (w.drewN n) row := ⟨h.os, h.tape, h.output, h.size, h.block⟩
theorem only_setCell {a w : World} {g : Nat} (h : a.grownBy w (some g)) {p : Addr} (hp : p.block = g ∨ a.heap.size ≤ p.block) (u : Value) : a.grownBy (w.setCell p u) (some g) :=
  ⟨h.os, h.tape, h.output, by simpa [World.setCell] using h.size, fun i hi hne => (Below.heap_setCell w p u i (by
    rintro rfl
    rcases hp with hp | hp
    · exact hne (by rw [hp])
    · omega)).trans (h.block i hi hne)⟩
theorem only_below {a w : World} {g : Nat} (h : a.grownBy w (some g)) (hg : g ≤ a.heap.size) : Below g a w :=
  ⟨h.os, h.tape, h.output, h.size, fun k hk => h.block k (by omega) (fun e => by injection e with e; omega)⟩
theorem Mk.grown {w w' : World} {g t : Nat} {l : List Nat} {row : Option Nat} (h : Mk w g t l) (hg : w.grownBy w' row) (hne : some g ≠ row) : Mk w' g t l := Blk.grown h hg hne
theorem Mk.drewN {w : World} {g t : Nat} {l : List Nat} (h : Mk w g t l) (q : Nat) : Mk (w.drewN q) g t l := h

/-- What take leaves: the digits, and whether it borrowed at the end. -/
def TakePost (w : World) (g k n cap q V : Nat) (U : List Nat) (e : Ending) (w' : World) : Prop :=
  ∃ (U' : List Nat) (b : Bool), e = .returned (.bool b) ∧ MkC w' g 90 cap U' ∧ U'.length = U.length ∧ Dig U' ∧ w.grownBy w' (some g) ∧ (∀ j, (j < k ∨ k + n < j) → dg U' j = dg U j) ∧
    ((b = false ∧ pl U' k (n + 1) + q * V = pl U k (n + 1)) ∨ (b = true ∧ pl U' k (n + 1) + q * V = pl U k (n + 1) + pw (n + 1)))

theorem sub_wrap {x m y : Nat} (hx : x < 4294967296) (hm : m < 4294967296) (hy : y ≤ 1) :
    ∃ d y' : Nat, d < 4294967296 ∧ y' ≤ 1 ∧ d + m + y = x + y' * 4294967296 ∧ IntKind.u64.wrap (IntKind.u64.wrap ((x : Int) - (m : Int)) - (y : Int)) % 4294967296 = (d : Int) ∧
      IntKind.u64.wrap (IntKind.u64.wrap ((x : Int) - (m : Int)) - (y : Int)) / 9223372036854775808 = (y' : Int) := by
  rw [u64_wrap, u64_wrap]
  by_cases h : m + y ≤ x
  · exact ⟨x - m - y, 0, by omega, by omega, by omega, by omega, by omega⟩
  · exact ⟨x + 4294967296 - m - y, 1, by omega, by omega, by omega, by omega, by omega⟩
theorem and_low {s : Nat} (h : s ≤ 18446744069414584320) : bits .and .u64 (s : Int) 4294967295 = ((s % 4294967296 : Nat) : Int) := by
  rw [show (4294967295 : Int) = ((4294967295 : Nat) : Int) by rfl, u64_and_nat _ _ (by omega) (by omega), show 4294967295 = 2 ^ 32 - 1 by decide, Nat.and_two_pow_sub_one_eq_mod]

end Go.Proofs.YtlpnjoenkohadaaDoor
