/-
  Walks over the reference of chapter 1: Sqrt.
-/
import Derived.Test.YtegnbgckejebgaaRdd
import Derived.Test.YtegnbgckejebgaaLit
import Derived.Test.YtegnbgckejebgaaNumD
namespace Go.Proofs.Ytegnbgckejebgaa
set_option linter.unusedVariables false
set_option linter.unusedSimpArgs false
open Go.RowKit

theorem cmpN_le0 {x y : Nat} (h : x ≤ y) : cmpN x y ≤ 0 := by
  rcases Nat.lt_or_ge x y with h1 | h1
  · rw [cmpN_lt h1]; omega
  · rw [cmpN_eq (by omega)]; omega
theorem cmpN_gt0 {x y : Nat} (h : y < x) : ¬ cmpN x y ≤ 0 := by rw [cmpN_gt h]; omega
theorem sqr_up {r q a : Nat} (h : a < (r + q * 2) * (r + q * 2)) : a < (r + q + q) * (r + q + q) := by
  rw [show r + q + q = r + q * 2 by omega]; exact h
theorem sqr_start (v : Nat) : v < (0 + 2 ^ (bitsN v / 2 + 1)) * (0 + 2 ^ (bitsN v / 2 + 1)) := by
  rw [Nat.zero_add, ← Nat.pow_add]
  have h1 : v < 2 ^ bitsN v := by
    unfold bitsN
    split
    · subst_vars; decide
    · exact Nat.lt_log2_self
  exact Nat.lt_of_lt_of_le h1 (Nat.pow_le_pow_right (by omega) (by omega))
theorem le_sqr (x : Nat) : x ≤ x * x := by
  rcases Nat.eq_zero_or_pos x with h | h
  · subst h; exact Nat.le_refl _
  · calc x = x * 1 := (Nat.mul_one x).symm
      _ ≤ x * x := Nat.mul_le_mul_left _ h
theorem own_empty (w : World) : Own (w.alloc (.cells #[] 71)) w.heap.size (some ⟨w.heap.size, 0, none⟩) 0 0 [] := by
  obtain ⟨A1, c1, h1, ho⟩ := Own.of_row (own_lit w) Dig.nil rfl
  injection h1 with h1 h2 h3
  subst h3
  subst h1
  exact ho

set_option maxRecDepth 100000 in
set_option maxHeartbeats 2000000 in
theorem refSqrt_c {A : Option Addr} {n c : Nat} {a : List Nat} (w : World) (ha : In w A n c a) (hn : n ≤ 4000) :
    Calls Try.prog 41 #[.slice A n c] w fun e w' => ∃ r, IsSqrt (val a) r ∧ RetN w r e w' := by
  have Ha := hide ha
  have hav := val_lt_of ha.dig (Nat.le_of_eq ha.len)
  have hbits : bitsN (val a) ≤ 32 * n := bitsN_lt (by rw [← pw_two]; exact hav)
  obtain ⟨K, hK⟩ : ∃ K, K = bitsN (val a) / 2 + 1 := ⟨_, rfl⟩
  have hKb : K ≤ 64001 := by omega
  have HK := hide hK
  have HA := hide hav
  have hk0 : (bitsN (val a) : Int) / 2 = (K : Int) - 1 := by omega
  have start : Hid (val a < (0 + 2 ^ K) * (0 + 2 ^ K)) := by show _ < _; rw [hK]; exact sqr_start _
  obtain ⟨B, hB⟩ : ∃ B, B = bitsN (val a) := ⟨_, rfl⟩
  rw [← hB] at hk0 hbits
  have HB := hide hB
  clear hK hav hB
  go_enter Try.func41, Try.ntmps41
  go_wp2_with fail
  refine (refBitLen_c _ (ha.below (below_lit _ _)) (by omega)).mono ?_
  rintro e w1 ⟨rfl, hw1⟩
  rw [← unhide HB]
  have ho0 := (own_empty w).below hw1
  have hb1 := (below_lit w (.cells #[] 71)).trans (hw1.mono (by simp))
  clear hw1 ha
  go_wp2_with fail
  go_loopw [3, 4] (fun sr si wx => ∃ (k : Nat) (z : Int) (R : Option Addr) (nr cr : Nat) (r : List Nat), k ≤ K ∧ z + 1 = k ∧ si = .int .i64 z ∧ sr = .slice R nr cr ∧ Own wx w.heap.size R nr cr r ∧ Norm r ∧ nr ≤ n ∧ Hid (val r * val r ≤ val a ∧ val a < (val r + 2 ^ k) * (val r + 2 ^ k)) ∧ Below w.heap.size w wx) (fun _ si _ => (intOf si + 1).toNat)
  case atStart => exact ⟨K, (K : Int) - 1, _, 0, 0, [], Nat.le_refl _, by omega, congrArg (Value.int .i64) (by omega), rfl, ho0, Norm.nil, Nat.zero_le _, ⟨Nat.zero_le _, unhide start⟩, hb1⟩
  case round =>
    clear ho0 hb1
    obtain ⟨k, z, R, nr, cr, r, hk, hz, rfl, rfl, ho, Nr, hnr, hI, hbx⟩ := hrel
    by_cases h0 : k = 0
    · subst h0
      obtain rfl : z = -1 := by omega
      clear hz
      go_wp2_with fail
      go_ret
      exact ⟨val r, ⟨(unhide hI).1, by have := (unhide hI).2; simpa using this⟩, R, nr, cr, r, rfl, Nr, rfl, ho, hbx⟩
    · obtain ⟨j, rfl⟩ : ∃ j, k = j + 1 := ⟨k - 1, by omega⟩
      obtain rfl : z = (j : Int) := by omega
      clear hz h0
      have ir := ho.toIn
      have hsz := hbx.size
      go_wp2_with fail
      have il := in_lit wr [1] 1 #[.int .u32 1] rfl (Dig.one (by omega)) rfl (by omega)
      refine (refUp_c j _ il (by omega) (by omega)).mono ?_
      rintro e w2 ⟨Au, nu, cu, lu, rfl, Nu, vu, ou, hw2⟩
      rw [val_one, Nat.one_mul] at vu
      have hwr2 : Below wr.heap.size wr w2 := (below_lit wr _).trans (hw2.mono (by simp))
      have iu := ou.toIn
      have ir2 := ir.below hwr2
      have hjn : 2 ^ j ≤ pw n := by
        rw [pw_two]; exact Nat.pow_le_pow_right (by omega) (by have := unhide HK; have := unhide HB; omega)
      have hnu : nu ≤ n + 1 := by
        have h1 := Nu.length_le (k := n + 1) (by rw [vu]; exact Nat.lt_of_le_of_lt hjn (pw_lt (by omega)))
        have := iu.len; omega
      have VU := hide vu
      clear vu
      go_wp2_with fail
      refine (refAdd_c _ ir2 iu (by omega) (by omega)).mono ?_
      rintro e w3 ⟨At, nt, ct, lt, rfl, Nt, vt, ot, hw3⟩
      have hwr3 : Below wr.heap.size wr w3 := hwr2.trans (hw3.mono hwr2.size)
      have it := ot.toIn
      have hrn : val r < pw n := Nat.lt_of_le_of_lt (le_sqr _) (Nat.lt_of_le_of_lt (unhide hI).1 (unhide HA))
      have hnt : nt ≤ n + 1 := by
        have h1 := Nt.length_le (k := n + 1) (by
          rw [vt, unhide VU, pw_succ]; have := pw_pos n; omega)
        have := it.len; omega
      have VT : Hid (val lt = val r + 2 ^ j) := by show _ = _; rw [vt, unhide VU]
      clear vt hjn hrn
      go_wp2_with fail
      refine (refMul_c _ it it (by omega) (by omega)).mono ?_
      rintro e w4 ⟨Aq, nq, cq, lq, rfl, Nq, vq, oq, hw4⟩
      have hwr4 : Below wr.heap.size wr w4 := hwr3.trans (hw4.mono hwr3.size)
      have iq := oq.toIn
      have ia4 := ((unhide Ha).below hbx).below hwr4
      have ot4 := ot.below hw4
      have ho4 := ho.below hwr4
      have hb4 := hbx.trans (hwr4.mono hsz)
      go_wp2_with fail
      refine (refCmp_c _ iq ia4).mono ?_
      rintro e w5 ⟨rfl, ⟨q, rfl⟩⟩
      rw [vq, unhide VT]
      by_cases hle : (val r + 2 ^ j) * (val r + 2 ^ j) ≤ val a
      · obtain ⟨y, hy, hy0⟩ : ∃ y, y = cmpN ((val r + 2 ^ j) * (val r + 2 ^ j)) (val a) ∧ y ≤ 0 := ⟨_, rfl, cmpN_le0 hle⟩
        rw [← hy]
        have hntn : nt ≤ n := by
          have h1 := Nt.length_le (k := n) (by rw [unhide VT]; exact Nat.lt_of_le_of_lt (Nat.le_trans (le_sqr _) hle) (unhide HA))
          have := it.len; omega
        have hI2 : Hid (val lt * val lt ≤ val a ∧ val a < (val lt + 2 ^ j) * (val lt + 2 ^ j)) := by
          have h2 := (unhide hI).2
          rw [Nat.pow_succ] at h2
          rw [unhide VT]
          exact ⟨hle, sqr_up h2⟩
        clear hy hle
        go_wp2_with fail
        go_roundw
        case rel => exact ⟨j, (j : Int) - 1, At, nt, ct, lt, by omega, by omega, rfl, rfl, (ot4.drewN q).base (by have := hwr2.size; omega), Nt, hntn, hI2, below_drewN hb4 q⟩
        case measure => simp [intOf]
      · obtain ⟨y, hy, hy0⟩ : ∃ y, y = cmpN ((val r + 2 ^ j) * (val r + 2 ^ j)) (val a) ∧ ¬ y ≤ 0 := ⟨_, rfl, cmpN_gt0 (by omega)⟩
        rw [← hy]
        have hI2 : Hid (val r * val r ≤ val a ∧ val a < (val r + 2 ^ j) * (val r + 2 ^ j)) := ⟨(unhide hI).1, by omega⟩
        clear hy hle
        go_wp2_with fail
        go_roundw
        case rel => exact ⟨j, (j : Int) - 1, R, nr, cr, r, by omega, by omega, rfl, rfl, ho4.drewN q, Nr, hnr, hI2, below_drewN hb4 q⟩
        case measure => simp [intOf]

end Go.Proofs.Ytegnbgckejebgaa
