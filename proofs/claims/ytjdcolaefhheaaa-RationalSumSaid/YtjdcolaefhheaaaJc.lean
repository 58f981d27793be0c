/-
  The reference of chapter 2: FromInt, IsNormalized, BitLen.
-/
import Derived.Test.YtjdcolaefhheaaaIc
import Derived.Test.YtjdcolaefhheaaaJb
import Derived.Outline
namespace Go.Proofs.Ytjdcolaefhheaaa
set_option linter.unusedVariables false
set_option linter.unusedSimpArgs false
open Go.RowKit
attribute [local go_sem ↓] Go.wp_at_zero Go.wp_at_succ

set_option maxRecDepth 100000 in
set_option maxHeartbeats 1000000 in
theorem rfromInt_c (z : Int) (w : World) (h1 : -9223372036854775808 ≤ z) (h2 : z ≤ 9223372036854775807) :
    Calls Try.prog 87 #[.int .i64 z] w (RetI w z) := by
  by_cases hz : z < 0
  · obtain ⟨m, hm⟩ : ∃ m : Nat, z = -(m : Int) := ⟨z.natAbs, by omega⟩
    have e1 : IntKind.u64.wrap (0 - (IntKind.u64.wrap z)) = (m : Int) := by rw [u64_wrap, u64_wrap]; omega
    have e3 : IntKind.u64.wrap (-(IntKind.u64.wrap z)) = (m : Int) := by rw [u64_wrap, u64_wrap]; omega
    have hm2 : (m : Int) ≤ 18446744073709551615 := by omega
    have HZ : Hid (zi true m = z) := by show (-(m : Int)) = z; omega
    clear hm
    go_enter Try.func87, Try.ntmps87
    go_wp2_with fail
    obtain ⟨w0, hw0⟩ : ∃ w0, w0 = ((w.alloc (.cells #[.bool false, .slice none 0 0] 24)).alloc (.cells #[.int .u32 ((m : Int) % 4294967296), .int .u32 ((m : Int) / 4294967296)] 53)) := ⟨_, rfl⟩
    have kw00 : Blk w0 (w.heap.size) 24 #[.bool false, .slice none 0 0] := by rw [hw0]; exact allocs_blk [(#[.bool false, .slice none 0 0], 24), (#[.int .u32 ((m : Int) % 4294967296), .int .u32 ((m : Int) / 4294967296)], 53)] w 0 _ _ rfl
    have kw01 : Blk w0 (w.heap.size + 1) 53 #[.int .u32 ((m : Int) % 4294967296), .int .u32 ((m : Int) / 4294967296)] := by rw [hw0]; exact allocs_blk [(#[.bool false, .slice none 0 0], 24), (#[.int .u32 ((m : Int) % 4294967296), .int .u32 ((m : Int) / 4294967296)], 53)] w 1 _ _ rfl
    have fr : Fr w [(w.heap.size, 2)] w0 := Fr.cons ((⟨by rw [hw0]; exact allocs_below [(#[.bool false, .slice none 0 0], 24), (#[.int .u32 ((m : Int) % 4294967296), .int .u32 ((m : Int) / 4294967296)], 53)] w, fun _ h => by cases h⟩ : Fr w [] w0)) (g := w.heap.size) (k := 2) (by omega) (.of_blk kw00 rfl)
    have sw0 : w0.heap.size = w.heap.size + 2 := by rw [hw0]; exact allocs_size [(#[.bool false, .slice none 0 0], 24), (#[.int .u32 ((m : Int) % 4294967296), .int .u32 ((m : Int) / 4294967296)], 53)] w
    rw [← hw0]
    clear hw0
    clear hz
    have h2d := two_digits m hm2
    have hmk : Mk w0 (w.heap.size + 1) 53 [m % 4294967296, m / 4294967296] := kw01
    have ho := hmk.own (B := w.heap.size + 1) h2d.1 (Nat.le_refl _) (by simp [maxLen])
    clear kw00 kw01
    refine (rnew_k (k := z) _ ho.toIn (by simp) (by rw [h2d.2]; exact unhide HZ)).mono ?_
    rintro e w2 ⟨A2, n2, c2, l2, rfl, N2, v2, o2, hw2⟩
    have fr2 := fr.below hw2
    obtain ⟨⟨x0, k0, f0⟩, ⟨x1, k1, f1⟩⟩ := fr2.two (g := w.heap.size) (by simp)
    clear h2d hmk ho e1
    go_wp2_with fail
    exact bodyPost_ret (v := .agg #[.bool (decide (z < 0)), .slice A2 n2 c2]) (by simp [results, Try.results87, go_sem, k0, k1, f0, f1]) rfl (.fin N2 v2 o2 ((fr2.set (by simp) _).set (by simp) _).bel (by omega) (by omega))
  · obtain ⟨m, hm⟩ : ∃ m : Nat, z = (m : Int) := ⟨z.natAbs, by omega⟩
    have e1 : IntKind.u64.wrap z = (m : Int) := by rw [u64_wrap]; omega
    have hm2 : (m : Int) ≤ 18446744073709551615 := by omega
    have HZ : Hid (zi false m = z) := by show ((m : Int)) = z; omega
    clear hm
    go_enter Try.func87, Try.ntmps87
    go_wp2_with fail
    obtain ⟨w0, hw0⟩ : ∃ w0, w0 = ((w.alloc (.cells #[.bool false, .slice none 0 0] 24)).alloc (.cells #[.int .u32 ((m : Int) % 4294967296), .int .u32 ((m : Int) / 4294967296)] 53)) := ⟨_, rfl⟩
    have kw00 : Blk w0 (w.heap.size) 24 #[.bool false, .slice none 0 0] := by rw [hw0]; exact allocs_blk [(#[.bool false, .slice none 0 0], 24), (#[.int .u32 ((m : Int) % 4294967296), .int .u32 ((m : Int) / 4294967296)], 53)] w 0 _ _ rfl
    have kw01 : Blk w0 (w.heap.size + 1) 53 #[.int .u32 ((m : Int) % 4294967296), .int .u32 ((m : Int) / 4294967296)] := by rw [hw0]; exact allocs_blk [(#[.bool false, .slice none 0 0], 24), (#[.int .u32 ((m : Int) % 4294967296), .int .u32 ((m : Int) / 4294967296)], 53)] w 1 _ _ rfl
    have fr : Fr w [(w.heap.size, 2)] w0 := Fr.cons ((⟨by rw [hw0]; exact allocs_below [(#[.bool false, .slice none 0 0], 24), (#[.int .u32 ((m : Int) % 4294967296), .int .u32 ((m : Int) / 4294967296)], 53)] w, fun _ h => by cases h⟩ : Fr w [] w0)) (g := w.heap.size) (k := 2) (by omega) (.of_blk kw00 rfl)
    have sw0 : w0.heap.size = w.heap.size + 2 := by rw [hw0]; exact allocs_size [(#[.bool false, .slice none 0 0], 24), (#[.int .u32 ((m : Int) % 4294967296), .int .u32 ((m : Int) / 4294967296)], 53)] w
    rw [← hw0]
    clear hw0
    clear hz
    have h2d := two_digits m hm2
    have hmk : Mk w0 (w.heap.size + 1) 53 [m % 4294967296, m / 4294967296] := kw01
    have ho := hmk.own (B := w.heap.size + 1) h2d.1 (Nat.le_refl _) (by simp [maxLen])
    clear kw00 kw01
    refine (rnew_k (k := z) _ ho.toIn (by simp) (by rw [h2d.2]; exact unhide HZ)).mono ?_
    rintro e w2 ⟨A2, n2, c2, l2, rfl, N2, v2, o2, hw2⟩
    have fr2 := fr.below hw2
    obtain ⟨⟨x0, k0, f0⟩, ⟨x1, k1, f1⟩⟩ := fr2.two (g := w.heap.size) (by simp)
    clear h2d hmk ho e1
    go_wp2_with fail
    exact bodyPost_ret (v := .agg #[.bool (decide (z < 0)), .slice A2 n2 c2]) (by simp [results, Try.results87, go_sem, k0, k1, f0, f1]) rfl (.fin N2 v2 o2 ((fr2.set (by simp) _).set (by simp) _).bel (by omega) (by omega))

def topB (n : Nat) (l : List Nat) : Bool := decide (trim l = l)
set_option maxRecDepth 100000 in
set_option maxHeartbeats 1000000 in
theorem risn_c {A : Option Addr} {n c : Nat} {a : List Nat} {s : Bool} (w : World) (ha : In w A n c a) :
    Calls Try.prog 89 #[.agg #[.bool s, .slice A n c]] w (RetV w (.bool (isn s a))) := by
  have hlI := ha.lenI
  have hl := hide ha.len
  by_cases h0 : n = 0
  · subst h0
    have K : Hid (isn s a = !s) := by
      show _ = _
      have : a = [] := List.length_eq_zero_iff.1 (unhide hl)
      subst this
      cases s <;> rfl
    clear ha
    go_enter Try.func89, Try.ntmps89
    go_wp2_with fail
    obtain ⟨w0, hw0⟩ : ∃ w0, w0 = (w.alloc (.cells #[.bool s, .slice A 0 c] 24)) := ⟨_, rfl⟩
    have kw00 : Blk w0 (w.heap.size) 24 #[.bool s, .slice A 0 c] := by rw [hw0]; exact allocs_blk [(#[.bool s, .slice A 0 c], 24)] w 0 _ _ rfl
    have fr : Fr w [] w0 := (⟨by rw [hw0]; exact allocs_below [(#[.bool s, .slice A 0 c], 24)] w, fun _ h => by cases h⟩ : Fr w [] w0)
    have sw0 : w0.heap.size = w.heap.size + 1 := by rw [hw0]; exact allocs_size [(#[.bool s, .slice A 0 c], 24)] w
    rw [← hw0]
    clear hw0
    have a0 := kw00.cell 0
    have a1 := kw00.cell 1
    clear kw00
    go_wp2_with fail
    go_ret
    rw [unhide K]
    exact ⟨rfl, fr.bel⟩
  · obtain ⟨j, rfl⟩ : ∃ j, n = j + 1 := ⟨n - 1, by omega⟩
    have K : Hid (isn s a = (((dg a j : Nat) : Int) != 0)) := by
      show _ = _
      have e : decide (trim a = a) = (((dg a j : Nat) : Int) != 0) := by
        by_cases hd : dg a j = 0
        · rw [hd, decide_eq_false]
          · rfl
          · intro e
            have h1 := trim_length a
            rw [e, unhide hl, tlen_step hd] at h1
            have := tlen_le a j
            omega
        · rw [decide_eq_true (by rw [trim, unhide hl, tlen_stop hd, List.take_of_length_le (by rw [unhide hl]; exact Nat.le_refl _)])]
          simpa using hd
      rw [isn, e, unhide hl, decide_eq_true (Nat.succ_pos j), Bool.or_true, Bool.and_true]
    have h0' : ((j : Int) + 1 == 0) = false := by simp; omega
    obtain ⟨ad, rfl, hc⟩ := ha.at_ (k := j) (by omega)
    have hd := ha.dig j
    clear h0
    obtain ⟨ad', hA, hc'⟩ := (ha.below (below_lit w (.cells #[.bool s, .slice (some ad) (j + 1) c] 24))).at_ (k := j) (by omega)
    obtain rfl : ad = ad' := by injection hA
    go_enter Try.func89, Try.ntmps89
    go_wp2_with fail
    go_ret
    rw [unhide K]
    exact ⟨rfl, below_lit _ _⟩

set_option maxRecDepth 100000 in
set_option maxHeartbeats 1000000 in
theorem rbitLen_c {A : Option Addr} {n c : Nat} {a : List Nat} {s : Bool} (w : World) (ha : In w A n c a) (hn : n ≤ 274877906944) :
    Calls Try.prog 92 #[.agg #[.bool s, .slice A n c]] w (RetV w (.int .i64 (bitsN (val a) : Nat))) := by
  go_enter Try.func92, Try.ntmps92
  go_wp2_with fail
  obtain ⟨w0, hw0⟩ : ∃ w0, w0 = (w.alloc (.cells #[.bool s, .slice A n c] 24)) := ⟨_, rfl⟩
  have kw00 : Blk w0 (w.heap.size) 24 #[.bool s, .slice A n c] := by rw [hw0]; exact allocs_blk [(#[.bool s, .slice A n c], 24)] w 0 _ _ rfl
  have fr : Fr w [] w0 := (⟨by rw [hw0]; exact allocs_below [(#[.bool s, .slice A n c], 24)] w, fun _ h => by cases h⟩ : Fr w [] w0)
  have sw0 : w0.heap.size = w.heap.size + 1 := by rw [hw0]; exact allocs_size [(#[.bool s, .slice A n c], 24)] w
  rw [← hw0]
  clear hw0
  have a0 := kw00.cell 0
  have a1 := kw00.cell 1
  clear kw00
  go_wp2_with fail
  refine (refBitLen_c _ (fr.in_ ha) hn).mono ?_
  rintro e w1 ⟨rfl, hw1⟩
  go_wp2_with fail
  go_ret
  exact ⟨rfl, (fr.below hw1).bel⟩

end Go.Proofs.Ytjdcolaefhheaaa
