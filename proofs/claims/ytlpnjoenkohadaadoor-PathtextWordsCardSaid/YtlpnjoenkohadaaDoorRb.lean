/-
  Walks over the reference of chapter 1: Add, Sub, Times, BitLen.
-/
import Derived.Test.YtlpnjoenkohadaaDoorRa
namespace Go.Proofs.YtlpnjoenkohadaaDoor
set_option linter.unusedVariables false
set_option linter.unusedSimpArgs false
open Go.RowKit

theorem refadd_step {o a b : List Nat} {k y x z : Nat} (hk : o.length = k) (h : val o + y * pw k = lo a k + lo b k) (e : x + z * 4294967296 = dg a k + dg b k + y) :
    val (o ++ [x]) + z * pw (k + 1) = lo a (k + 1) + lo b (k + 1) := by
  rw [val_snoc hk, pw_succ, lo_succ, lo_succ]
  have h2 : (x + z * 4294967296) * pw k = (dg a k + dg b k + y) * pw k := by rw [e]
  grind
theorem refadd_end {o a b : List Nat} {N y : Nat} (ho : o.length = N) (ha : a.length ≤ N) (hb : b.length ≤ N) (h : val o + y * pw N = lo a N + lo b N) : val (o ++ [y]) = val a + val b := by
  rw [val_snoc ho, h, lo_all ha, lo_all hb]
theorem refsub_step {o a b : List Nat} {k y x z : Nat} (hk : o.length = k) (h : val o + lo b k = lo a k + y * pw k) (e : x + dg b k + y = dg a k + z * 4294967296) :
    val (o ++ [x]) + lo b (k + 1) = lo a (k + 1) + z * pw (k + 1) := by
  rw [val_snoc hk, pw_succ, lo_succ, lo_succ]
  have h2 : (x + dg b k + y) * pw k = (dg a k + z * 4294967296) * pw k := by rw [e]
  grind
theorem refsub_end {o a b : List Nat} {n y : Nat} (ho : o.length = n) (hod : Dig o) (ha : a.length = n) (had : Dig a) (hle : val b ≤ val a) (h : val o + lo b n = lo a n + y * pw n) : val o = val a - val b := by
  rw [lo_all (Nat.le_of_eq ha)] at h
  have h1 : val a < pw n := val_lt_of had (Nat.le_of_eq ha)
  have h2 : val o < pw n := val_lt_of hod (Nat.le_of_eq ho)
  have h3 := lo_drop b n
  have h4 : val (b.drop n) = 0 := by
    rcases Nat.eq_zero_or_pos (val (b.drop n)) with e | e
    · exact e
    · have : pw n * 1 ≤ pw n * val (b.drop n) := Nat.mul_le_mul_left _ e
      omega
  rw [h4, Nat.mul_zero, Nat.add_zero] at h3
  rcases Nat.eq_zero_or_pos y with e | e
  · rw [e, Nat.zero_mul] at h; omega
  · have : 1 * pw n ≤ y * pw n := Nat.mul_le_mul_right _ e
    omega
theorem reftimes_step {o a : List Nat} {k y x z d : Nat} (hk : o.length = k) (h : val o + y * pw k = lo a k * d) (e : x + z * 4294967296 = dg a k * d + y) :
    val (o ++ [x]) + z * pw (k + 1) = lo a (k + 1) * d := by
  rw [val_snoc hk, pw_succ, lo_succ]
  have h2 : (x + z * 4294967296) * pw k = (dg a k * d + y) * pw k := by rw [e]
  grind

set_option maxRecDepth 100000 in
set_option maxHeartbeats 1000000 in
theorem refAdd_c {A B : Option Addr} {n c m d : Nat} {a b : List Nat} (w : World) (ha : In w A n c a) (hb : In w B m d b) (hn : n ≤ 549755813888) (hm : m ≤ 549755813888) :
    Calls Tryd.prog 96 #[.slice A n c, .slice B m d] w (RetN w (val a + val b)) := by
  have Ha := hide ha
  have Hb := hide hb
  obtain ⟨N, h1, h2, hN, hmax⟩ : ∃ N : Nat, n ≤ N ∧ m ≤ N ∧ N ≤ 549755813888 ∧ max (n : Int) (m : Int) = (N : Int) := ⟨max n m, by omega, by omega, by omega, by omega⟩
  have HL := hide (And.intro (Nat.le_trans (Nat.le_of_eq ha.len) h1) (Nat.le_trans (Nat.le_of_eq hb.len) h2))
  clear ha hb
  obtain ⟨i0, hi0, hz0, hz1, hz2⟩ := info_parts Tryd.info_u32
  go_enter Tryd.func96, Tryd.ntmps96
  go_wp2_with fail
  go_loopw [5, 6, 7] (fun so sy si wx => ∃ (k y : Nat) (o : List Nat), k ≤ N ∧ si = .int .i64 k ∧ sy = .int .u64 y ∧ y ≤ 1 ∧ Hid (o.length = k ∧ Dig o ∧ val o + y * pw k = lo a k + lo b k) ∧ wx.ownsRow w.heap.size 90 1 so k (u32s o) ∧ Below w.heap.size w wx) (fun _ _ si _ => N - (intOf si).toNat)
  case atStart => exact ⟨0, 0, [], Nat.zero_le _, rfl, rfl, Nat.zero_le _, ⟨rfl, Dig.nil, by simp [lo_zero, val]⟩, own_lit _, below_lit _ _⟩
  case round =>
    obtain ⟨k, y, o, hk, rfl, rfl, hy, hI, hownr, hbx⟩ := hrel
    have hsz := hbx.size
    have hda := (unhide Ha).dig k
    have hdb := (unhide Hb).dig k
    by_cases hlt : k < N
    · have t0 : (k : Int) < (N : Int) := by omega
      have t0' : (k : Int) < max (n : Int) (m : Int) := by omega
      go_wp2_with fail
      refine (refDigit_c _ _ ((unhide Ha).below hbx) (by omega)).mono ?_
      rintro e w' ⟨rfl, rfl⟩
      go_wp2_with fail
      refine (refDigit_c _ _ ((unhide Hb).below hbx) (by omega)).mono ?_
      rintro e w' ⟨rfl, rfl⟩
      rw [Int.toNat_natCast]
      go_wp2_with (first
        | (at_builtin; refine wpList_append_own_at _ rfl (.tmp 28) (.tmp 31) 62 rfl w.heap.size 90 i0 (.int .u32 0) 1 4 Tryd.underlying62 hi0 hz0 hz1 hz2 rfl (by decide) _ _ _ (by rfl) (hownr.alloc _) ⟨wr.heap.size, 0, none⟩ 1 1 [.int .u32 _] rfl rfl (cell_one_new _ _ _) (by intro u hu; simp at hu; subst hu; rfl) (by simp only [maxLen]; omega) (by omega) (by simp; omega) ?_; intro v' w2 hown2 hg2 _ hat2))
      have hown3 := snoc_own (x := (dg a k + dg b k + y) % 4294967296) hown2 (by omega)
      have hb2 := grown_below hbx hownr hg2
      clear hown2 hg2 hat2 hownr
      go_wp2_with fail
      go_roundw
      case rel =>
        obtain ⟨h3, h4, h5⟩ := unhide hI
        exact ⟨k + 1, (dg a k + dg b k + y) / 4294967296, _, by omega, by go_num, by go_num, by omega, ⟨by rw [List.length_append, h3]; rfl, h4.append (Dig.one (by omega)), refadd_step h3 h5 (by omega)⟩, hown3, hb2⟩
      case measure => simp [intOf]; omega
    · have hkN : k = N := by omega
      have t0 : ¬ (k : Int) < (N : Int) := by omega
      have t0' : ¬ (k : Int) < max (n : Int) (m : Int) := by omega
      go_wp2_with (first
        | (at_builtin; refine wpList_append_own_at _ rfl (.tmp 35) (.tmp 38) 62 rfl w.heap.size 90 i0 (.int .u32 0) 1 4 Tryd.underlying62 hi0 hz0 hz1 hz2 rfl (by decide) _ _ _ (by rfl) (hownr.alloc _) ⟨wr.heap.size, 0, none⟩ 1 1 [.int .u32 _] rfl rfl (cell_one_new _ _ _) (by intro u hu; simp at hu; subst hu; rfl) (by simp only [maxLen]; omega) (by omega) (by simp; omega) ?_; intro v' w2 hown2 hg2 _ hat2))
      have hown3 := snoc_own (x := y) hown2 (by omega)
      have hb2 := grown_below hbx hownr hg2
      clear hown2 hg2 hat2 hownr
      obtain ⟨h3, h4, h5⟩ := unhide hI
      obtain ⟨A1, c1, rfl, ho⟩ := Own.of_row hown3 (h4.append (Dig.one (by omega))) (by rw [List.length_append, h3]; rfl)
      have hv : val (o ++ [y]) = val a + val b := refadd_end (h3.trans hkN) (unhide HL).1 (unhide HL).2 (by rw [← hkN]; exact h5)
      have HV := hide hv
      clear hv h3 h4 h5 hI
      go_wp2_with fail
      refine (refNormalize_c _ ho.toIn (by omega)).mono ?_
      rintro e w' ⟨A2, n2, c2, rfl, ho2, hw⟩
      go_wp2_with fail
      go_ret
      exact ⟨A2, n2, c2, _, rfl, trim_norm ho.dig, by rw [val_trim]; exact unhide HV, ho2.base (by have := hb2.size; omega), hb2.trans (hw.mono hb2.size)⟩

set_option maxRecDepth 100000 in
set_option maxHeartbeats 1000000 in
theorem refTimes_c {A : Option Addr} {n c : Nat} {a : List Nat} (d : Nat) (w : World) (ha : In w A n c a) (hn : n ≤ 549755813888) (hd : d < 4294967296) :
    Calls Tryd.prog 97 #[.slice A n c, .int .u64 d] w (RetN w (val a * d)) := by
  have Ha := hide ha
  have HL := hide ha.len
  clear ha
  obtain ⟨i0, hi0, hz0, hz1, hz2⟩ := info_parts Tryd.info_u32
  go_enter Tryd.func97, Tryd.ntmps97
  go_wp2_with fail
  go_loopw [5, 6, 7] (fun so sy si wx => ∃ (k y : Nat) (o : List Nat), k ≤ n ∧ si = .int .i64 k ∧ sy = .int .u64 y ∧ y < 4294967296 ∧ Hid (o.length = k ∧ Dig o ∧ val o + y * pw k = lo a k * d) ∧ wx.ownsRow w.heap.size 90 1 so k (u32s o) ∧ Below w.heap.size w wx) (fun _ _ si _ => n - (intOf si).toNat)
  case atStart => exact ⟨0, 0, [], Nat.zero_le _, rfl, rfl, by omega, ⟨rfl, Dig.nil, by simp [lo_zero, val]⟩, own_lit _, below_lit _ _⟩
  case round =>
    obtain ⟨k, y, o, hk, rfl, rfl, hy, hI, hownr, hbx⟩ := hrel
    have hsz := hbx.size
    have hda := (unhide Ha).dig k
    by_cases hlt : k < n
    · have t0 : (k : Int) < (n : Int) := by omega
      obtain ⟨ad, rfl, hcell⟩ := ((unhide Ha).below hbx).at_ (k := k) hlt
      have hml := mul_le32 hda hd
      obtain ⟨s, hs⟩ : ∃ s, s = dg a k * d + y := ⟨_, rfl⟩
      have hsi : (dg a k : Int) * (d : Int) + (y : Int) = (s : Int) := by rw [hs]; simp
      have hmi : (dg a k : Int) * (d : Int) ≤ 18446744065119617025 ∧ 0 ≤ (dg a k : Int) * (d : Int) := mul_le32i hda hd
      have hsb : (s : Int) ≤ 18446744069414584320 := by omega
      have HS := hide hs
      clear hs hml
      go_wp2_with (first
        | (at_builtin; refine wpList_append_own_at _ rfl (.tmp 25) (.tmp 28) 62 rfl w.heap.size 90 i0 (.int .u32 0) 1 4 Tryd.underlying62 hi0 hz0 hz1 hz2 rfl (by decide) _ _ _ (by rfl) (hownr.alloc _) ⟨wr.heap.size, 0, none⟩ 1 1 [.int .u32 _] rfl rfl (cell_one_new _ _ _) (by intro u hu; simp at hu; subst hu; rfl) (by simp only [maxLen]; omega) (by omega) (by simp; omega) ?_; intro v' w2 hown2 hg2 _ hat2))
      have hown3 := snoc_own (x := s % 4294967296) hown2 (by omega)
      have hb2 := grown_below hbx hownr hg2
      clear hown2 hg2 hat2 hownr
      go_wp2_with fail
      go_roundw
      case rel =>
        obtain ⟨h3, h4, h5⟩ := unhide hI
        exact ⟨k + 1, s / 4294967296, _, by omega, by go_num, congrArg (Value.int .u64) (by omega), by omega, ⟨by rw [List.length_append, h3]; rfl, h4.append (Dig.one (by omega)), reftimes_step h3 h5 (by rw [← unhide HS]; omega)⟩, hown3, hb2⟩
      case measure => simp [intOf]; omega
    · obtain rfl : k = n := by omega
      go_wp2_with (first
        | (at_builtin; refine wpList_append_own_at _ rfl (.tmp 32) (.tmp 35) 62 rfl w.heap.size 90 i0 (.int .u32 0) 1 4 Tryd.underlying62 hi0 hz0 hz1 hz2 rfl (by decide) _ _ _ (by rfl) (hownr.alloc _) ⟨wr.heap.size, 0, none⟩ 1 1 [.int .u32 _] rfl rfl (cell_one_new _ _ _) (by intro u hu; simp at hu; subst hu; rfl) (by simp only [maxLen]; omega) (by omega) (by simp; omega) ?_; intro v' w2 hown2 hg2 _ hat2))
      have hown3 := snoc_own (x := y) hown2 (by omega)
      have hb2 := grown_below hbx hownr hg2
      clear hown2 hg2 hat2 hownr
      obtain ⟨h3, h4, h5⟩ := unhide hI
      obtain ⟨A1, c1, rfl, ho⟩ := Own.of_row hown3 (h4.append (Dig.one (by omega))) (by rw [List.length_append, h3]; rfl)
      have hv : val (o ++ [y]) = val a * d := by rw [val_snoc h3, h5, lo_all (by rw [unhide HL]; omega)]
      have HV := hide hv
      clear hv h3 h4 h5 hI
      go_wp2_with fail
      refine (refNormalize_c _ ho.toIn (by omega)).mono ?_
      rintro e w' ⟨A2, n2, c2, rfl, ho2, hw⟩
      go_wp2_with fail
      go_ret
      exact ⟨A2, n2, c2, _, rfl, trim_norm ho.dig, by rw [val_trim]; exact unhide HV, ho2.base (by have := hb2.size; omega), hb2.trans (hw.mono hb2.size)⟩

end Go.Proofs.YtlpnjoenkohadaaDoor
