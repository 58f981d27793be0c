/-
  Walks over natural: Sub, Mul, one.
-/
import Derived.Test.YtlpnjoenkohadaaWb
namespace Go.Proofs.Ytlpnjoenkohadaa
set_option linter.unusedVariables false
set_option linter.unusedSimpArgs false
open Go.RowKit

theorem In.qd {w w' : World} {A : Option Addr} {n c : Nat} {l : List Nat} (h : In w A n c l) (hq : Qd w w') : In w' A n c l := by
  obtain ⟨q, rfl⟩ := hq; exact h.drewN q
theorem Qd.below {w w' : World} (h : Qd w w') (B : Nat) : Below B w w' := by
  obtain ⟨q, rfl⟩ := h; exact below_drewN (Below.refl _ _) q

theorem u64_wrap (x : Int) : IntKind.u64.wrap x = x % 18446744073709551616 := IntKind.wrap_u64 x

set_option maxRecDepth 100000 in
set_option maxHeartbeats 1000000 in
theorem sub_c {A B : Option Addr} {n c m d : Nat} {a b : List Nat} (w : World) (ha : In w A n c a) (hb : In w B m d b) (hn : n ≤ 1099511627776) :
    Calls Try.prog 99 #[.slice A n c, .slice B m d] w fun e w' => ∃ A' n' c' l, e = .returned (.tuple #[.slice A' n' c', .bool (decide (val b ≤ val a))]) ∧ Norm l ∧ val l = val a - val b ∧ Own w' w.heap.size A' n' c' l ∧ Below w.heap.size w w' := by
  have Ha := hide ha
  have Hb := hide hb
  have ht := tlen_le a n
  by_cases hcmp : val a < val b
  · have K : Hid (cmpN (val a) (val b) = -1) := cmpN_lt hcmp
    have Hc := hide hcmp
    clear hcmp
    go_enter Try.func99, Try.ntmps99
    go_wp2_with fail
    refine (cmp_c w ha hb).mono ?_
    rintro e w' ⟨rfl, ⟨q, rfl⟩⟩
    rw [unhide K]
    go_wp2_with fail
    go_ret2
    have := unhide Hc
    exact ⟨none, 0, 0, [], by rw [decide_eq_false (by omega)]; rfl, Norm.nil, by rw [val_nil]; omega, Own.nil_, below_drewN (Below.refl _ _) _⟩
  · obtain ⟨z, hz0, K⟩ : ∃ z, (0 : Int) ≤ z ∧ Hid (cmpN (val a) (val b) = z) := by
      refine ⟨_, ?_, rfl⟩
      unfold cmpN
      rw [if_neg hcmp]; split <;> omega
    have Hc := hide hcmp
    clear hcmp ha hb
    have hmk := fun W => run_make_u32 W (tlen a n) (tlen a n) rfl (by omega)
    go_enter Try.func99, Try.ntmps99
    go_wp2_with fail
    refine (cmp_c w (unhide Ha) (unhide Hb)).mono ?_
    rintro e w' ⟨rfl, ⟨q, rfl⟩⟩
    rw [unhide K]
    go_wp2_with fail
    refine (short_c _ ((unhide Ha).drewN q)).mono ?_
    rintro e w' ⟨rfl, rfl⟩
    go_wp2_with fail
    have hM := (Mk.zero w (tlen a n))
    go_loopw [7, 20] (fun cy i wr => ∃ (k y : Nat) (o : List Nat), k ≤ tlen a n ∧ i = .int .i64 k ∧ cy = .int .u64 y ∧ o.length = tlen a n ∧ Dig o ∧ y ≤ 1 ∧ lo o k + lo b k = lo a k + y * pw k ∧ Mk wr w.heap.size 50 o ∧ Below w.heap.size w wr) (fun _ i _ => tlen a n - (intOf i).toNat)
    case atStart => exact ⟨0, 0, _, Nat.zero_le _, rfl, rfl, by simp, Dig.replicate _, by omega, by simp [lo_zero], hM, below_drewN ((Below.refl _ _).alloc (Nat.le_refl _) _) _⟩
    case round =>
      obtain ⟨k, y, o, hk, rfl, rfl, hol, hod, hy, hsum, hmk, hbw⟩ := hrel
      clear hM
      have Hol := hide hol
      have Hsum := hide hsum
      clear hol hsum
      by_cases hlt : k < tlen a n
      · have hda := (unhide Ha).dig k
        have hdb := (unhide Hb).dig k
        have hcell := hmk.cell (i := k) (by rw [unhide Hol]; exact hlt)
        have hfz := hmk.frozen k
        go_wp2_with fail
        refine (digit_c _ _ ((unhide Ha).below hbw) (by omega)).mono ?_
        rintro e w' ⟨rfl, rfl⟩
        go_wp2_with fail
        refine (digit_c _ _ ((unhide Hb).below hbw) (by omega)).mono ?_
        rintro e w' ⟨rfl, rfl⟩
        by_cases hge : dg b k + y ≤ dg a k
        · go_wp2
          have hst := hmk.set_ k (dg a k - dg b k - y)
          rw [show ((dg a k - dg b k - y : Nat) : Int) = (dg a k : Int) - dg b k - y by omega] at hst
          go_roundw
          case rel => exact ⟨k + 1, 0, _, by omega, by go_num, congrArg (Value.int .u64) (by omega), by rw [List.length_set]; exact unhide Hol, hod.set _ (by omega), by omega, sub_step (by rw [unhide Hol]; exact hlt) (unhide Hsum) (by omega), hst, hbw.setCell (Nat.le_refl _) _⟩
          case measure => simp [intOf]; omega
        · have hst := hmk.set_ k (dg a k + 4294967296 - dg b k - y)
          by_cases hg2 : dg b k ≤ dg a k
          · go_wp2
            rw [show ((dg a k + 4294967296 - dg b k - y : Nat) : Int) = IntKind.u64.wrap ((dg a k : Int) - dg b k - y) % 4294967296 by rw [u64_wrap]; omega] at hst
            go_roundw
            case rel => exact ⟨k + 1, 1, _, by omega, by go_num, congrArg (Value.int .u64) (by rw [u64_wrap]; omega), by rw [List.length_set]; exact unhide Hol, hod.set _ (by omega), by omega, sub_step (by rw [unhide Hol]; exact hlt) (unhide Hsum) (by omega), hst, hbw.setCell (Nat.le_refl _) _⟩
            case measure => simp [intOf]; omega
          · go_wp2
            rw [show ((dg a k + 4294967296 - dg b k - y : Nat) : Int) = IntKind.u64.wrap (IntKind.u64.wrap ((dg a k : Int) - dg b k) - y) % 4294967296 by rw [u64_wrap, u64_wrap]; omega] at hst
            go_roundw
            case rel => exact ⟨k + 1, 1, _, by omega, by go_num, congrArg (Value.int .u64) (by rw [u64_wrap, u64_wrap]; omega), by rw [List.length_set]; exact unhide Hol, hod.set _ (by omega), by omega, sub_step (by rw [unhide Hol]; exact hlt) (unhide Hsum) (by omega), hst, hbw.setCell (Nat.le_refl _) _⟩
            case measure => simp [intOf]; omega
      · have hk' : k = tlen a n := by omega
        subst hk'
        have ho := hmk.own hod (Nat.le_refl _) (by rw [unhide Hol]; unfold maxLen; omega)
        rw [unhide Hol] at ho
        go_wp2_with fail
        refine (short_c _ ho.toIn).mono ?_
        rintro e w' ⟨rfl, rfl⟩
        go_wp2_with fail
        go_ret2
        have ha := unhide Ha
        have hb := unhide Hb
        have hc := unhide Hc
        have hl := ha.trim.len
        have hd : decide (val b ≤ val a) = true := decide_eq_true (by omega)
        rw [hd]
        refine ⟨_, _, _, trim o, rfl, trim_norm hod, ?_, ho.trim, hbw⟩
        rw [val_trim]
        exact sub_end (by rw [hl]; exact unhide Hol) hod ha.dig (by omega) (by rw [hl]; exact unhide Hsum)

set_option maxRecDepth 100000 in
set_option maxHeartbeats 1000000 in
theorem mul_c {A B : Option Addr} {n c m d : Nat} {a b : List Nat} (w : World) (ha : In w A n c a) (hb : In w B m d b) (hn : n ≤ 1099511627776) (hm : m ≤ 1099511627776) :
    Calls Try.prog 72 #[.slice A n c, .slice B m d] w (RetN w (val a * val b)) := by
  have hta := tlen_le a n
  have htb := tlen_le b m
  have Ta := ha.trim
  have Tb := hb.trim
  have Va : Hid (val (trim a) = val a) := val_trim a
  have Vb : Hid (val (trim b) = val b) := val_trim b
  have Ha := hide ha
  have Hb := hide hb
  clear ha hb
  obtain ⟨p, hp⟩ : ∃ p, p = tlen a n := ⟨_, rfl⟩
  obtain ⟨q, hq⟩ : ∃ q, q = tlen b m := ⟨_, rfl⟩
  rw [← hp] at Ta hta
  rw [← hq] at Tb htb
  have HP := hide hp
  have HQ := hide hq
  clear hp hq
  have hmk := fun W => run_make_u32 W ((p : Int) + q) (p + q) (by omega) (by omega)
  go_enter Try.func72, Try.ntmps72
  go_wp2_with fail
  go_step3
  go_wp2_with fail
  refine (short_c w (unhide Ha)).mono ?_
  rintro e w' ⟨rfl, rfl⟩
  rw [← unhide HP]
  go_wp2_with fail
  refine (short_c w (unhide Hb)).mono ?_
  rintro e w' ⟨rfl, rfl⟩
  rw [← unhide HQ]
  go_wp2_with fail
  go_step3
  go_wp2_with fail
  go_loopw [23] (fun i wr => ∃ (k : Nat) (o : List Nat), k ≤ p ∧ i = .int .i64 k ∧ o.length = p + q ∧ Dig o ∧ Hid (val o = lo (trim a) k * val (trim b) ∧ ∀ j, k + q ≤ j → dg o j = 0) ∧ Mk wr w.heap.size 50 o ∧ Below w.heap.size w wr) (fun i _ => p - (intOf i).toNat)
  case atStart => exact ⟨0, _, Nat.zero_le _, rfl, by simp, Dig.replicate _, ⟨by rw [val_replicate, lo_zero]; omega, fun j _ => dg_replicate⟩, Mk.zero w (p + q), (Below.refl _ _).alloc (Nat.le_refl _) _⟩
  case round =>
    obtain ⟨k, o, hk, rfl, hol, hod, hI, hmo, hbw⟩ := hrel
    have Hol := hide hol
    clear hol
    by_cases hlt : k < p
    · obtain ⟨ad, hA, hca⟩ := (Ta.below hbw).at_ (k := k) (by omega)
      subst hA
      have hx := Ta.dig k
      by_cases h0 : dg (trim a) k = 0
      · have hz : (((dg (trim a) k : Nat) : Int) == 0) = true := by simp [h0]
        have H0 := hide h0
        clear h0
        go_wp2
        go_roundw
        case rel => exact ⟨k + 1, o, by omega, by go_num, unhide Hol, hod, ⟨by rw [lo_succ, unhide H0, Nat.zero_mul, Nat.add_zero]; exact (unhide hI).1, fun j hj => (unhide hI).2 j (by omega)⟩, hmo, hbw⟩
        case measure => simp [intOf]; omega
      · have hz : (((dg (trim a) k : Nat) : Int) == 0) = false := by simpa using h0
        clear h0
        go_wp2
        obtain ⟨wo, rfl⟩ : ∃ wo : World, wo = wr := ⟨_, rfl⟩
        go_loopw [8, 32] (fun cy i wr => ∃ (j y : Nat) (r : List Nat), j ≤ q ∧ i = .int .i64 j ∧ cy = .int .u64 y ∧ y < 4294967296 ∧ r.length = p + q ∧ Dig r ∧ Hid (lo r (k + j) + y * pw (k + j) = lo o (k + j) + dg (trim a) k * lo (trim b) j * pw k ∧ ∀ t, k + j ≤ t → dg r t = dg o t) ∧ Mk wr w.heap.size 50 r ∧ Below w.heap.size w wr) (fun _ i _ => q - (intOf i).toNat)
        case atStart => exact ⟨0, 0, o, Nat.zero_le _, rfl, rfl, by omega, unhide Hol, hod, ⟨by rw [lo_zero]; omega, fun _ _ => rfl⟩, hmo, hbw⟩
        case round =>
          obtain ⟨j, y, r, hj, rfl, rfl, hy, hrl, hrd, hJ, hmr, hbr⟩ := hrel
          have Hrl := hide hrl
          clear hrl
          by_cases hlt2 : j < q
          · obtain ⟨bd, hB, hcb⟩ := (Tb.below hbr).at_ (k := j) (by omega)
            subst hB
            have hy2 := Tb.dig j
            have hr2 := hrd (k + j)
            have hxy := mul_le32i hx hy2
            have hcell := hmr.cell (i := k + j) (by rw [unhide Hrl]; omega)
            have hfz := hmr.frozen (k + j)
            go_wp2
            obtain ⟨s, hs⟩ : ∃ s, s = y + (dg (trim a) k * dg (trim b) j + dg r (k + j)) := ⟨_, rfl⟩
            have hsi : (s : Int) = (y : Int) + ((dg (trim a) k : Int) * (dg (trim b) j : Int) + (dg r (k + j) : Int)) := by
              rw [hs, Int.natCast_add, Int.natCast_add, Int.natCast_mul]
            rw [← hsi]
            have hst := hmr.set_ (k + j) (s % 4294967296)
            rw [show ((s % 4294967296 : Nat) : Int) = (s : Int) % 4294967296 by omega] at hst
            go_roundw
            case rel =>
              refine ⟨j + 1, s / 4294967296, _, by omega, by go_num, congrArg (Value.int .u64) (by omega), by omega, by rw [List.length_set]; exact unhide Hrl, hrd.set _ (by omega), ⟨?_, fun t ht => ?_⟩, hst, hbr.setCell (Nat.le_refl _) _⟩
              · exact mul_step (by rw [unhide Hrl]; omega) ((unhide hJ).2 _ (Nat.le_refl _)) (unhide hJ).1 hs
              · rw [dg_set, if_neg (by omega)]; exact (unhide hJ).2 t (by omega)
            case measure => simp [intOf]; omega
          · have hj' : j = q := by omega
            subst hj'
            have hcell := hmr.cell (i := k + j) (by rw [unhide Hrl]; omega)
            have hfz := hmr.frozen (k + j)
            go_wp2
            have hst := hmr.set_ (k + j) y
            go_roundw
            case rel =>
              have hrow := mul_row (a := trim a) (b := trim b) (by rw [unhide Hrl]; omega) rfl (by rw [lo_all (by rw [Tb.len]; exact Nat.le_refl _)]) (unhide hI).1 (unhide hI).2 (unhide hJ).2 (unhide hJ).1
              exact ⟨k + 1, _, by omega, by go_num, by rw [List.length_set]; exact unhide Hrl, hrd.set _ hy, hrow, hst, hbr.setCell (Nat.le_refl _) _⟩
            case measure => simp [intOf]; omega
    · have hk' : k = p := by omega
      subst hk'
      have ho := hmo.own hod (Nat.le_refl _) (by rw [unhide Hol]; unfold maxLen; omega)
      rw [unhide Hol] at ho
      go_wp2_with fail
      refine (short_c _ ho.toIn).mono ?_
      rintro e w' ⟨rfl, rfl⟩
      go_wp2_with fail
      try rw [Exit.noGoto_ret]
      go_ret
      refine ⟨_, _, _, trim o, rfl, trim_norm hod, ?_, ho.trim, hbw⟩
      rw [val_trim, (unhide hI).1, unhide Vb, lo_all (by rw [Ta.len]; exact Nat.le_refl _), unhide Va]

end Go.Proofs.Ytlpnjoenkohadaa
