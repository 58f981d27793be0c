/-
  Walks over natural: Sub, Mul, one.
-/
import Derived.Test.YtlpnjoenkohadaaDoorWb
namespace Go.Proofs.YtlpnjoenkohadaaDoor
set_option linter.unusedVariables false
set_option linter.unusedSimpArgs false
open Go.RowKit

theorem In.qd {w w' : World} {A : Option Addr} {n c : Nat} {l : List Nat} (h : In w A n c l) (hq : Qd w w') : In w' A n c l := by
  obtain ⟨q, rfl⟩ := hq; exact h.drewN q
theorem Qd.below {w w' : World} (h : Qd w w') (B : Nat) : Below B w w' := by
  obtain ⟨q, rfl⟩ := h; exact below_drewN (Below.refl _ _) q

theorem u64_wrap (x : Int) : IntKind.u64.wrap x = x % 18446744073709551616 := IntKind.wrap_u64 x

set_option maxRecDepth 100000 in
set_option maxHeartbeats 1000000 in
theorem mul_c {A B : Option Addr} {n c m d : Nat} {a b : List Nat} (w : World) (ha : In w A n c a) (hb : In w B m d b) (hn : n ≤ 1099511627776) (hm : m ≤ 1099511627776) :
    Calls Tryd.prog 81 #[.slice A n c, .slice B m d] w (RetN w (val a * val b)) := by
  have hta := tlen_le a n
  have htb := tlen_le b m
  have Ta := ha.trim
  have Tb := hb.trim
  have Va : Hid (val (trim a) = val a) := val_trim a
  have Vb : Hid (val (trim b) = val b) := val_trim b
  have Ha := hide ha
  have Hb := hide hb
  clear ha hb
  obtain ⟨p, hp⟩ : ∃ p, p = tlen a n := ⟨_, rfl⟩
  obtain ⟨q, hq⟩ : ∃ q, q = tlen b m := ⟨_, rfl⟩
  rw [← hp] at Ta hta
  rw [← hq] at Tb htb
  have HP := hide hp
  have HQ := hide hq
  clear hp hq
  have hmk := fun W => run_make_u32 W ((p : Int) + q) (p + q) (by omega) (by omega)
  go_enter Tryd.func81, Tryd.ntmps81
  go_wp2_with fail
  go_step3
  go_wp2_with fail
  refine (short_c w (unhide Ha)).mono ?_
  rintro e w' ⟨rfl, rfl⟩
  rw [← unhide HP]
  go_wp2_with fail
  refine (short_c w (unhide Hb)).mono ?_
  rintro e w' ⟨rfl, rfl⟩
  rw [← unhide HQ]
  go_wp2_with fail
  go_step3
  go_wp2_with fail
  go_loopw [23] (fun i wr => ∃ (k : Nat) (o : List Nat), k ≤ p ∧ i = .int .i64 k ∧ o.length = p + q ∧ Dig o ∧ Hid (val o = lo (trim a) k * val (trim b) ∧ ∀ j, k + q ≤ j → dg o j = 0) ∧ Mk wr w.heap.size 90 o ∧ Below w.heap.size w wr) (fun i _ => p - (intOf i).toNat)
  case atStart => exact ⟨0, _, Nat.zero_le _, rfl, by simp, Dig.replicate _, ⟨by rw [val_replicate, lo_zero]; omega, fun j _ => dg_replicate⟩, Mk.zero w (p + q), (Below.refl _ _).alloc (Nat.le_refl _) _⟩
  case round =>
    obtain ⟨k, o, hk, rfl, hol, hod, hI, hmo, hbw⟩ := hrel
    have Hol := hide hol
    clear hol
    by_cases hlt : k < p
    · obtain ⟨ad, hA, hca⟩ := (Ta.below hbw).at_ (k := k) (by omega)
      subst hA
      have hx := Ta.dig k
      by_cases h0 : dg (trim a) k = 0
      · have hz : (((dg (trim a) k : Nat) : Int) == 0) = true := by simp [h0]
        have H0 := hide h0
        clear h0
        go_wp2
        go_roundw
        case rel => exact ⟨k + 1, o, by omega, by go_num, unhide Hol, hod, ⟨by rw [lo_succ, unhide H0, Nat.zero_mul, Nat.add_zero]; exact (unhide hI).1, fun j hj => (unhide hI).2 j (by omega)⟩, hmo, hbw⟩
        case measure => simp [intOf]; omega
      · have hz : (((dg (trim a) k : Nat) : Int) == 0) = false := by simpa using h0
        clear h0
        go_wp2
        obtain ⟨wo, rfl⟩ : ∃ wo : World, wo = wr := ⟨_, rfl⟩
        go_loopw [8, 32] (fun cy i wr => ∃ (j y : Nat) (r : List Nat), j ≤ q ∧ i = .int .i64 j ∧ cy = .int .u64 y ∧ y < 4294967296 ∧ r.length = p + q ∧ Dig r ∧ Hid (lo r (k + j) + y * pw (k + j) = lo o (k + j) + dg (trim a) k * lo (trim b) j * pw k ∧ ∀ t, k + j ≤ t → dg r t = dg o t) ∧ Mk wr w.heap.size 90 r ∧ Below w.heap.size w wr) (fun _ i _ => q - (intOf i).toNat)
        case atStart => exact ⟨0, 0, o, Nat.zero_le _, rfl, rfl, by omega, unhide Hol, hod, ⟨by rw [lo_zero]; omega, fun _ _ => rfl⟩, hmo, hbw⟩
        case round =>
          obtain ⟨j, y, r, hj, rfl, rfl, hy, hrl, hrd, hJ, hmr, hbr⟩ := hrel
          have Hrl := hide hrl
          clear hrl
          by_cases hlt2 : j < q
          · obtain ⟨bd, hB, hcb⟩ := (Tb.below hbr).at_ (k := j) (by omega)
            subst hB
            have hy2 := Tb.dig j
            have hr2 := hrd (k + j)
            have hxy := mul_le32i hx hy2
            have hcell := hmr.cell (i := k + j) (by rw [unhide Hrl]; omega)
            have hfz := hmr.frozen (k + j)
            go_wp2
            obtain ⟨s, hs⟩ : ∃ s, s = y + (dg (trim a) k * dg (trim b) j + dg r (k + j)) := ⟨_, rfl⟩
            have hsi : (s : Int) = (y : Int) + ((dg (trim a) k : Int) * (dg (trim b) j : Int) + (dg r (k + j) : Int)) := by
              rw [hs, Int.natCast_add, Int.natCast_add, Int.natCast_mul]
            rw [← hsi]
            have hst := hmr.set_ (k + j) (s % 4294967296)
            rw [show ((s % 4294967296 : Nat) : Int) = (s : Int) % 4294967296 by omega] at hst
            go_roundw
            case rel =>
              refine ⟨j + 1, s / 4294967296, _, by omega, by go_num, congrArg (Value.int .u64) (by omega), by omega, by rw [List.length_set]; exact unhide Hrl, hrd.set _ (by omega), ⟨?_, fun t ht => ?_⟩, hst, hbr.setCell (Nat.le_refl _) _⟩
              · exact mul_step (by rw [unhide Hrl]; omega) ((unhide hJ).2 _ (Nat.le_refl _)) (unhide hJ).1 hs
              · rw [dg_set, if_neg (by omega)]; exact (unhide hJ).2 t (by omega)
            case measure => simp [intOf]; omega
          · have hj' : j = q := by omega
            subst hj'
            have hcell := hmr.cell (i := k + j) (by rw [unhide Hrl]; omega)
            have hfz := hmr.frozen (k + j)
            go_wp2
            have hst := hmr.set_ (k + j) y
            go_roundw
            case rel =>
              have hrow := mul_row (a := trim a) (b := trim b) (by rw [unhide Hrl]; omega) rfl (by rw [lo_all (by rw [Tb.len]; exact Nat.le_refl _)]) (unhide hI).1 (unhide hI).2 (unhide hJ).2 (unhide hJ).1
              exact ⟨k + 1, _, by omega, by go_num, by rw [List.length_set]; exact unhide Hrl, hrd.set _ hy, hrow, hst, hbr.setCell (Nat.le_refl _) _⟩
            case measure => simp [intOf]; omega
    · have hk' : k = p := by omega
      subst hk'
      have ho := hmo.own hod (Nat.le_refl _) (by rw [unhide Hol]; unfold maxLen; omega)
      rw [unhide Hol] at ho
      go_wp2_with fail
      refine (short_c _ ho.toIn).mono ?_
      rintro e w' ⟨rfl, rfl⟩
      go_wp2_with fail
      try rw [Exit.noGoto_ret]
      go_ret
      refine ⟨_, _, _, trim o, rfl, trim_norm hod, ?_, ho.trim, hbw⟩
      rw [val_trim, (unhide hI).1, unhide Vb, lo_all (by rw [Ta.len]; exact Nat.le_refl _), unhide Va]

end Go.Proofs.YtlpnjoenkohadaaDoor
