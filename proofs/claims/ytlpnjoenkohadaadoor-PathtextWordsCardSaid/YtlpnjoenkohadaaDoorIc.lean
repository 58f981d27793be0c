/-
  Integers: FromInt, IsNormalized, BitLen.
-/
import Derived.Test.YtlpnjoenkohadaaDoorIb
namespace Go.Proofs.YtlpnjoenkohadaaDoor
set_option linter.unusedVariables false
set_option linter.unusedSimpArgs false
open Go.RowKit
attribute [local go_sem ↓] Go.wp_at_zero Go.wp_at_succ

set_option maxRecDepth 100000 in
set_option maxHeartbeats 1000000 in
theorem fromInt_c (z : Int) (w : World) (h1 : -9223372036854775808 ≤ z) (h2 : z ≤ 9223372036854775807) :
    Calls Tryd.prog 32 #[.int .i64 z] w (RetI w z) := by
  by_cases hz : z < 0
  · obtain ⟨m, hm⟩ : ∃ m : Nat, z = -(m : Int) := ⟨z.natAbs, by omega⟩
    have e1 : IntKind.u64.wrap (-(IntKind.u64.wrap z)) = (m : Int) := by rw [u64_wrap, u64_wrap]; omega
    have hm2 : (m : Int) ≤ 18446744073709551615 := by omega
    have HZ : Hid (zi true m = z) := by show (-(m : Int)) = z; omega
    clear hm
    go_enter Tryd.func32, Tryd.ntmps32
    go_wp2_with fail
    obtain ⟨w0, hw0⟩ : ∃ w0, w0 = (w.alloc (.cells #[.bool false, .slice none 0 0] 64)) := ⟨_, rfl⟩
    have kw00 : Blk w0 (w.heap.size) 64 #[.bool false, .slice none 0 0] := by rw [hw0]; exact allocs_blk [(#[.bool false, .slice none 0 0], 64)] w 0 _ _ rfl
    have fr : Fr w [(w.heap.size, 2)] w0 := Fr.cons ((⟨by rw [hw0]; exact allocs_below [(#[.bool false, .slice none 0 0], 64)] w, fun _ h => by cases h⟩ : Fr w [] w0)) (g := w.heap.size) (k := 2) (by omega) (.of_blk kw00 rfl)
    have sw0 : w0.heap.size = w.heap.size + 1 := by rw [hw0]; exact allocs_size [(#[.bool false, .slice none 0 0], 64)] w
    rw [← hw0]
    clear hw0
    clear hz
    refine (fromUint64_c m hm2 _).mono ?_
    rintro e w1 ⟨A1, n1, c1, l1, rfl, N1, v1, o1, hw1⟩
    have fr1 := fr.below hw1
    have hn1 : n1 ≤ 2 := by
      have := N1.length_le (k := 2) (by rw [v1, pw_two]; omega)
      rw [o1.len] at this
      exact this
    have V1 := hide v1
    clear v1 kw00
    go_wp2_with fail
    refine (new_k (k := z) _ o1.toIn (by omega) (by rw [unhide V1]; exact unhide HZ)).mono ?_
    rintro e w2 ⟨A2, n2, c2, l2, rfl, N2, v2, o2, hw2⟩
    have fr2 := fr1.below hw2
    have z1 := hw1.size
    obtain ⟨⟨x0, k0, f0⟩, ⟨x1, k1, f1⟩⟩ := fr2.two (g := w.heap.size) (by simp)
    go_wp2_with fail
    exact bodyPost_ret (v := .agg #[.bool (decide (z < 0)), .slice A2 n2 c2]) (by simp [results, Tryd.results32, go_sem, k0, k1, f0, f1]) rfl (.fin N2 v2 o2 ((fr2.set (by simp) _).set (by simp) _).bel (by omega) (by omega))
  · obtain ⟨m, hm⟩ : ∃ m : Nat, z = (m : Int) := ⟨z.natAbs, by omega⟩
    have e1 : IntKind.u64.wrap z = (m : Int) := by rw [u64_wrap]; omega
    have hm2 : (m : Int) ≤ 18446744073709551615 := by omega
    have HZ : Hid (zi false m = z) := by show ((m : Int)) = z; omega
    clear hm
    go_enter Tryd.func32, Tryd.ntmps32
    go_wp2_with fail
    obtain ⟨w0, hw0⟩ : ∃ w0, w0 = (w.alloc (.cells #[.bool false, .slice none 0 0] 64)) := ⟨_, rfl⟩
    have kw00 : Blk w0 (w.heap.size) 64 #[.bool false, .slice none 0 0] := by rw [hw0]; exact allocs_blk [(#[.bool false, .slice none 0 0], 64)] w 0 _ _ rfl
    have fr : Fr w [(w.heap.size, 2)] w0 := Fr.cons ((⟨by rw [hw0]; exact allocs_below [(#[.bool false, .slice none 0 0], 64)] w, fun _ h => by cases h⟩ : Fr w [] w0)) (g := w.heap.size) (k := 2) (by omega) (.of_blk kw00 rfl)
    have sw0 : w0.heap.size = w.heap.size + 1 := by rw [hw0]; exact allocs_size [(#[.bool false, .slice none 0 0], 64)] w
    rw [← hw0]
    clear hw0
    clear hz
    refine (fromUint64_c m hm2 _).mono ?_
    rintro e w1 ⟨A1, n1, c1, l1, rfl, N1, v1, o1, hw1⟩
    have fr1 := fr.below hw1
    have hn1 : n1 ≤ 2 := by
      have := N1.length_le (k := 2) (by rw [v1, pw_two]; omega)
      rw [o1.len] at this
      exact this
    have V1 := hide v1
    clear v1 kw00
    go_wp2_with fail
    refine (new_k (k := z) _ o1.toIn (by omega) (by rw [unhide V1]; exact unhide HZ)).mono ?_
    rintro e w2 ⟨A2, n2, c2, l2, rfl, N2, v2, o2, hw2⟩
    have fr2 := fr1.below hw2
    have z1 := hw1.size
    obtain ⟨⟨x0, k0, f0⟩, ⟨x1, k1, f1⟩⟩ := fr2.two (g := w.heap.size) (by simp)
    go_wp2_with fail
    exact bodyPost_ret (v := .agg #[.bool (decide (z < 0)), .slice A2 n2 c2]) (by simp [results, Tryd.results32, go_sem, k0, k1, f0, f1]) rfl (.fin N2 v2 o2 ((fr2.set (by simp) _).set (by simp) _).bel (by omega) (by omega))

def isn (s : Bool) (l : List Nat) : Bool := decide (trim l = l) && (!s || decide (0 < l.length))

end Go.Proofs.YtlpnjoenkohadaaDoor
