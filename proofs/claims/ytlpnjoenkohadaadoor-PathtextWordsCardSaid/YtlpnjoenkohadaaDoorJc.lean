/-
  The reference of chapter 2: FromInt, IsNormalized, BitLen.
-/
import Derived.Test.YtlpnjoenkohadaaDoorIc
import Derived.Test.YtlpnjoenkohadaaDoorJb
import Derived.Outline
namespace Go.Proofs.YtlpnjoenkohadaaDoor
set_option linter.unusedVariables false
set_option linter.unusedSimpArgs false
open Go.RowKit
attribute [local go_sem ↓] Go.wp_at_zero Go.wp_at_succ

set_option maxRecDepth 100000 in
set_option maxHeartbeats 1000000 in
theorem rfromInt_c (z : Int) (w : World) (h1 : -9223372036854775808 ≤ z) (h2 : z ≤ 9223372036854775807) :
    Calls Tryd.prog 37 #[.int .i64 z] w (RetI w z) := by
  by_cases hz : z < 0
  · obtain ⟨m, hm⟩ : ∃ m : Nat, z = -(m : Int) := ⟨z.natAbs, by omega⟩
    have e1 : IntKind.u64.wrap (0 - (IntKind.u64.wrap z)) = (m : Int) := by rw [u64_wrap, u64_wrap]; omega
    have e3 : IntKind.u64.wrap (-(IntKind.u64.wrap z)) = (m : Int) := by rw [u64_wrap, u64_wrap]; omega
    have hm2 : (m : Int) ≤ 18446744073709551615 := by omega
    have HZ : Hid (zi true m = z) := by show (-(m : Int)) = z; omega
    clear hm
    go_enter Tryd.func37, Tryd.ntmps37
    go_wp2_with fail
    obtain ⟨w0, hw0⟩ : ∃ w0, w0 = ((w.alloc (.cells #[.bool false, .slice none 0 0] 64)).alloc (.cells #[.int .u32 ((m : Int) % 4294967296), .int .u32 ((m : Int) / 4294967296)] 90)) := ⟨_, rfl⟩
    have kw00 : Blk w0 (w.heap.size) 64 #[.bool false, .slice none 0 0] := by rw [hw0]; exact allocs_blk [(#[.bool false, .slice none 0 0], 64), (#[.int .u32 ((m : Int) % 4294967296), .int .u32 ((m : Int) / 4294967296)], 90)] w 0 _ _ rfl
    have kw01 : Blk w0 (w.heap.size + 1) 90 #[.int .u32 ((m : Int) % 4294967296), .int .u32 ((m : Int) / 4294967296)] := by rw [hw0]; exact allocs_blk [(#[.bool false, .slice none 0 0], 64), (#[.int .u32 ((m : Int) % 4294967296), .int .u32 ((m : Int) / 4294967296)], 90)] w 1 _ _ rfl
    have fr : Fr w [(w.heap.size, 2)] w0 := Fr.cons ((⟨by rw [hw0]; exact allocs_below [(#[.bool false, .slice none 0 0], 64), (#[.int .u32 ((m : Int) % 4294967296), .int .u32 ((m : Int) / 4294967296)], 90)] w, fun _ h => by cases h⟩ : Fr w [] w0)) (g := w.heap.size) (k := 2) (by omega) (.of_blk kw00 rfl)
    have sw0 : w0.heap.size = w.heap.size + 2 := by rw [hw0]; exact allocs_size [(#[.bool false, .slice none 0 0], 64), (#[.int .u32 ((m : Int) % 4294967296), .int .u32 ((m : Int) / 4294967296)], 90)] w
    rw [← hw0]
    clear hw0
    clear hz
    have h2d := two_digits m hm2
    have hmk : Mk w0 (w.heap.size + 1) 90 [m % 4294967296, m / 4294967296] := kw01
    have ho := hmk.own (B := w.heap.size + 1) h2d.1 (Nat.le_refl _) (by simp [maxLen])
    clear kw00 kw01
    refine (rnew_k (k := z) _ ho.toIn (by simp) (by rw [h2d.2]; exact unhide HZ)).mono ?_
    rintro e w2 ⟨A2, n2, c2, l2, rfl, N2, v2, o2, hw2⟩
    have fr2 := fr.below hw2
    obtain ⟨⟨x0, k0, f0⟩, ⟨x1, k1, f1⟩⟩ := fr2.two (g := w.heap.size) (by simp)
    clear h2d hmk ho e1
    go_wp2_with fail
    exact bodyPost_ret (v := .agg #[.bool (decide (z < 0)), .slice A2 n2 c2]) (by simp [results, Tryd.results37, go_sem, k0, k1, f0, f1]) rfl (.fin N2 v2 o2 ((fr2.set (by simp) _).set (by simp) _).bel (by omega) (by omega))
  · obtain ⟨m, hm⟩ : ∃ m : Nat, z = (m : Int) := ⟨z.natAbs, by omega⟩
    have e1 : IntKind.u64.wrap z = (m : Int) := by rw [u64_wrap]; omega
    have hm2 : (m : Int) ≤ 18446744073709551615 := by omega
    have HZ : Hid (zi false m = z) := by show ((m : Int)) = z; omega
    clear hm
    go_enter Tryd.func37, Tryd.ntmps37
    go_wp2_with fail
    obtain ⟨w0, hw0⟩ : ∃ w0, w0 = ((w.alloc (.cells #[.bool false, .slice none 0 0] 64)).alloc (.cells #[.int .u32 ((m : Int) % 4294967296), .int .u32 ((m : Int) / 4294967296)] 90)) := ⟨_, rfl⟩
    have kw00 : Blk w0 (w.heap.size) 64 #[.bool false, .slice none 0 0] := by rw [hw0]; exact allocs_blk [(#[.bool false, .slice none 0 0], 64), (#[.int .u32 ((m : Int) % 4294967296), .int .u32 ((m : Int) / 4294967296)], 90)] w 0 _ _ rfl
    have kw01 : Blk w0 (w.heap.size + 1) 90 #[.int .u32 ((m : Int) % 4294967296), .int .u32 ((m : Int) / 4294967296)] := by rw [hw0]; exact allocs_blk [(#[.bool false, .slice none 0 0], 64), (#[.int .u32 ((m : Int) % 4294967296), .int .u32 ((m : Int) / 4294967296)], 90)] w 1 _ _ rfl
    have fr : Fr w [(w.heap.size, 2)] w0 := Fr.cons ((⟨by rw [hw0]; exact allocs_below [(#[.bool false, .slice none 0 0], 64), (#[.int .u32 ((m : Int) % 4294967296), .int .u32 ((m : Int) / 4294967296)], 90)] w, fun _ h => by cases h⟩ : Fr w [] w0)) (g := w.heap.size) (k := 2) (by omega) (.of_blk kw00 rfl)
    have sw0 : w0.heap.size = w.heap.size + 2 := by rw [hw0]; exact allocs_size [(#[.bool false, .slice none 0 0], 64), (#[.int .u32 ((m : Int) % 4294967296), .int .u32 ((m : Int) / 4294967296)], 90)] w
    rw [← hw0]
    clear hw0
    clear hz
    have h2d := two_digits m hm2
    have hmk : Mk w0 (w.heap.size + 1) 90 [m % 4294967296, m / 4294967296] := kw01
    have ho := hmk.own (B := w.heap.size + 1) h2d.1 (Nat.le_refl _) (by simp [maxLen])
    clear kw00 kw01
    refine (rnew_k (k := z) _ ho.toIn (by simp) (by rw [h2d.2]; exact unhide HZ)).mono ?_
    rintro e w2 ⟨A2, n2, c2, l2, rfl, N2, v2, o2, hw2⟩
    have fr2 := fr.below hw2
    obtain ⟨⟨x0, k0, f0⟩, ⟨x1, k1, f1⟩⟩ := fr2.two (g := w.heap.size) (by simp)
    clear h2d hmk ho e1
    go_wp2_with fail
    exact bodyPost_ret (v := .agg #[.bool (decide (z < 0)), .slice A2 n2 c2]) (by simp [results, Tryd.results37, go_sem, k0, k1, f0, f1]) rfl (.fin N2 v2 o2 ((fr2.set (by simp) _).set (by simp) _).bel (by omega) (by omega))

def topB (n : Nat) (l : List Nat) : Bool := decide (trim l = l)
end Go.Proofs.YtlpnjoenkohadaaDoor
