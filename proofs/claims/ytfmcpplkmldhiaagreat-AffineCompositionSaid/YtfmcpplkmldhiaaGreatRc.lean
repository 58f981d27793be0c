/-
  Walks over the reference of chapter 1: Mul.
-/
import Derived.Test.YtfmcpplkmldhiaaGreatRb
namespace Go.Proofs.YtfmcpplkmldhiaaGreat
set_option linter.unusedVariables false
set_option linter.unusedSimpArgs false
open Go.RowKit

set_option maxRecDepth 100000 in
set_option maxHeartbeats 2000000 in
theorem refMul_c {A B : Option Addr} {n c m d : Nat} {a b : List Nat} (w : World) (ha : In w A n c a) (hb : In w B m d b) (hn : n ≤ 274877906944) (hm : m ≤ 274877906944) :
    Calls Tryz.prog 117 #[.slice A n c, .slice B m d] w (RetN w (val a * val b)) := by
  have Ha := hide ha
  have Hb := hide hb
  have HL := hide (And.intro ha.len hb.len)
  clear ha hb
  obtain ⟨N, hN⟩ : ∃ N, N = n + m + 1 := ⟨_, rfl⟩
  have hmk := fun W => run_make_u32 W ((n : Int) + m + 1) N (by omega) (by omega)
  have hNb : N ≤ 549755813889 := by omega
  have HN := hide hN
  clear hN
  go_enter Tryz.func117, Tryz.ntmps117
  go_wp2_with fail
  go_loopw [6] (fun i wr => ∃ (k : Nat) (o : List Nat), k ≤ n ∧ i = .int .i64 k ∧ o.length = N ∧ Dig o ∧ Hid (val o = lo a k * val b ∧ ∀ j, k + m ≤ j → dg o j = 0) ∧ Mk wr w.heap.size 93 o ∧ Below w.heap.size w wr) (fun i _ => n - (intOf i).toNat)
  case atStart => exact ⟨0, _, Nat.zero_le _, rfl, by simp, Dig.replicate _, ⟨by rw [val_replicate, lo_zero]; omega, fun j _ => dg_replicate⟩, Mk.zero w N, (Below.refl _ _).alloc (Nat.le_refl _) _⟩
  case round =>
    obtain ⟨k, o, hk, rfl, hol, hod, hI, hmo, hbw⟩ := hrel
    have Hol := hide hol
    clear hol
    by_cases hlt : k < n
    · have t0 : (k : Int) < (n : Int) := by omega
      have hx := (unhide Ha).dig k
      go_wp2_with fail
      obtain ⟨wo, rfl⟩ : ∃ wo : World, wo = wr := ⟨_, rfl⟩
      go_loopw [7, 8] (fun cy i wr => ∃ (j y : Nat) (r : List Nat), j ≤ m ∧ i = .int .i64 j ∧ cy = .int .u64 y ∧ y < 4294967296 ∧ r.length = N ∧ Dig r ∧ Hid (lo r (k + j) + y * pw (k + j) = lo o (k + j) + dg a k * lo b j * pw k ∧ ∀ t, k + j ≤ t → dg r t = dg o t) ∧ Mk wr w.heap.size 93 r ∧ Below w.heap.size w wr) (fun _ i _ => m - (intOf i).toNat)
      case atStart => exact ⟨0, 0, o, Nat.zero_le _, rfl, rfl, by omega, unhide Hol, hod, ⟨by rw [lo_zero]; omega, fun _ _ => rfl⟩, hmo, hbw⟩
      case round =>
        obtain ⟨j, y, r, hj, rfl, rfl, hy, hrl, hrd, hJ, hmr, hbr⟩ := hrel
        have Hrl := hide hrl
        clear hrl
        obtain ⟨t, ht⟩ : ∃ t, t = k + j := ⟨_, rfl⟩
        have htN : (t : Int) < (N : Int) := by have := unhide HN; omega
        have tI : (k : Int) + (j : Int) = (t : Int) := by omega
        have tW : IntKind.i64.wrap ((k : Int) + (j : Int)) = (t : Int) := by rw [IntWalk.i64_in _ (by omega)]; omega
        have hcell := hmr.cell (i := t) (by rw [unhide Hrl]; omega)
        have hfz := hmr.frozen t
        have hr2 := hrd t
        have Ht := hide ht
        clear ht
        by_cases hlt2 : j < m
        · have t1 : (j : Int) < (m : Int) := by omega
          obtain ⟨ad, hA, hca⟩ := ((unhide Ha).below hbr).at_ (k := k) (by omega)
          obtain ⟨bd, hB, hcb⟩ := ((unhide Hb).below hbr).at_ (k := j) (by omega)
          subst hA
          subst hB
          have hy2 := (unhide Hb).dig j
          have hxy := mul_le32 hx hy2
          obtain ⟨X, hX⟩ : ∃ X, X = dg a k * dg b j := ⟨_, rfl⟩
          rw [← hX] at hxy
          have f1 : IntKind.u64.wrap (dg a k : Int) = (dg a k : Int) := by rw [u64_wrap]; omega
          have f2 : IntKind.u64.wrap (dg b j : Int) = (dg b j : Int) := by rw [u64_wrap]; omega
          have f0 : (dg a k : Int) * (dg b j : Int) = (X : Int) := by rw [hX]; simp
          have f3 : IntKind.u64.wrap ((dg a k : Int) * (dg b j : Int)) = (X : Int) := by rw [f0, u64_wrap]; omega
          have f4 : IntKind.u64.wrap (dg r t : Int) = (dg r t : Int) := by rw [u64_wrap]; omega
          have f5 : IntKind.u64.wrap ((X : Int) + (dg r t : Int)) = (X : Int) + (dg r t : Int) := by rw [u64_wrap]; omega
          have f6 : IntKind.u64.wrap ((X : Int) + (dg r t : Int) + (y : Int)) = (X : Int) + (dg r t : Int) + (y : Int) := by rw [u64_wrap]; omega
          have HX := hide hX
          clear hX
          go_wp2_with fail
          go_quiet (fail)
          go_wp2_with fail
          obtain ⟨s, hs⟩ : ∃ s, s = X + dg r t + y := ⟨_, rfl⟩
          have hsI : (X : Int) + (dg r t : Int) + (y : Int) = (s : Int) := by rw [hs]; simp
          rw [hsI]
          have hst := (hmr.drewN nq).set_ t (s % 4294967296)
          rw [show ((s % 4294967296 : Nat) : Int) = (s : Int) % 4294967296 by omega] at hst
          go_roundw
          case rel =>
            obtain ⟨h1, h2⟩ := unhide hJ
            have ht := unhide Ht
            refine ⟨j + 1, s / 4294967296, _, by omega, by go_num, congrArg (Value.int .u64) (by omega), by omega, by rw [List.length_set]; exact unhide Hrl, hrd.set _ (by omega), ⟨?_, fun q hq => ?_⟩, hst, (below_drewN hbr nq).setCell (Nat.le_refl _) _⟩
            · rw [ht]
              refine mul_step (by rw [unhide Hrl, ← ht]; omega) (h2 _ (Nat.le_refl _)) h1 ?_
              rw [hs, unhide HX, ht]; omega
            · rw [dg_set, if_neg (by omega)]; exact h2 q (by omega)
          case measure => simp [intOf]; omega
        · obtain rfl : j = m := by omega
          go_wp2_with fail
          have hst := hmr.set_ t y
          go_roundw
          case rel =>
            have ht := unhide Ht
            have hL := unhide HL
            have hrow := mul_row (a := a) (b := b) (by rw [unhide Hrl, ← ht]; omega) rfl (by rw [lo_all (Nat.le_of_eq hL.2)]) (unhide hI).1 (unhide hI).2 (unhide hJ).2 (unhide hJ).1
            rw [← ht] at hrow
            exact ⟨k + 1, _, by omega, by go_num, by rw [List.length_set]; exact unhide Hrl, hrd.set _ hy, hrow, hst, hbr.setCell (Nat.le_refl _) _⟩
          case measure => simp [intOf]; omega
    · obtain rfl : k = n := by omega
      have ho := hmo.own hod (Nat.le_refl _) (by rw [unhide Hol]; unfold maxLen; omega)
      rw [unhide Hol] at ho
      go_wp2_with fail
      refine (refNormalize_c _ ho.toIn (by omega)).mono ?_
      rintro e w' ⟨A2, n2, c2, rfl, ho2, hw⟩
      go_wp2_with fail
      go_ret
      refine ⟨A2, n2, c2, _, rfl, trim_norm hod, ?_, ho2.base hbw.size, hbw.trans (hw.mono hbw.size)⟩
      rw [val_trim, (unhide hI).1, lo_all (by rw [(unhide HL).1]; exact Nat.le_refl _)]

end Go.Proofs.YtfmcpplkmldhiaaGreat
