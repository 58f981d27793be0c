/-
  Walks over the reference of chapter 1: Add, Sub, Times, BitLen.
-/
import Derived.Test.YtlpnjoenkohadaaRa
namespace Go.Proofs.Ytlpnjoenkohadaa
set_option linter.unusedVariables false
set_option linter.unusedSimpArgs false
open Go.RowKit

theorem refadd_step {o a b : List Nat} {k y x z : Nat} (hk : o.length = k) (h : val o + y * pw k = lo a k + lo b k) (e : x + z * 4294967296 = dg a k + dg b k + y) :
    val (o ++ [x]) + z * pw (k + 1) = lo a (k + 1) + lo b (k + 1) := by
  rw [val_snoc hk, pw_succ, lo_succ, lo_succ]
  have h2 : (x + z * 4294967296) * pw k = (dg a k + dg b k + y) * pw k := by rw [e]
  grind
theorem refadd_end {o a b : List Nat} {N y : Nat} (ho : o.length = N) (ha : a.length ≤ N) (hb : b.length ≤ N) (h : val o + y * pw N = lo a N + lo b N) : val (o ++ [y]) = val a + val b := by
  rw [val_snoc ho, h, lo_all ha, lo_all hb]
theorem refsub_step {o a b : List Nat} {k y x z : Nat} (hk : o.length = k) (h : val o + lo b k = lo a k + y * pw k) (e : x + dg b k + y = dg a k + z * 4294967296) :
    val (o ++ [x]) + lo b (k + 1) = lo a (k + 1) + z * pw (k + 1) := by
  rw [val_snoc hk, pw_succ, lo_succ, lo_succ]
  have h2 : (x + dg b k + y) * pw k = (dg a k + z * 4294967296) * pw k := by rw [e]
  grind
theorem refsub_end {o a b : List Nat} {n y : Nat} (ho : o.length = n) (hod : Dig o) (ha : a.length = n) (had : Dig a) (hle : val b ≤ val a) (h : val o + lo b n = lo a n + y * pw n) : val o = val a - val b := by
  rw [lo_all (Nat.le_of_eq ha)] at h
  have h1 : val a < pw n := val_lt_of had (Nat.le_of_eq ha)
  have h2 : val o < pw n := val_lt_of hod (Nat.le_of_eq ho)
  have h3 := lo_drop b n
  have h4 : val (b.drop n) = 0 := by
    rcases Nat.eq_zero_or_pos (val (b.drop n)) with e | e
    · exact e
    · have : pw n * 1 ≤ pw n * val (b.drop n) := Nat.mul_le_mul_left _ e
      omega
  rw [h4, Nat.mul_zero, Nat.add_zero] at h3
  rcases Nat.eq_zero_or_pos y with e | e
  · rw [e, Nat.zero_mul] at h; omega
  · have : 1 * pw n ≤ y * pw n := Nat.mul_le_mul_right _ e
    omega
theorem reftimes_step {o a : List Nat} {k y x z d : Nat} (hk : o.length = k) (h : val o + y * pw k = lo a k * d) (e : x + z * 4294967296 = dg a k * d + y) :
    val (o ++ [x]) + z * pw (k + 1) = lo a (k + 1) * d := by
  rw [val_snoc hk, pw_succ, lo_succ]
  have h2 : (x + z * 4294967296) * pw k = (dg a k * d + y) * pw k := by rw [e]
  grind

set_option maxRecDepth 100000 in
set_option maxHeartbeats 1000000 in
theorem refAdd_c {A B : Option Addr} {n c m d : Nat} {a b : List Nat} (w : World) (ha : In w A n c a) (hb : In w B m d b) (hn : n ≤ 549755813888) (hm : m ≤ 549755813888) :
    Calls Try.prog 75 #[.slice A n c, .slice B m d] w (RetN w (val a + val b)) := by
  have Ha := hide ha
  have Hb := hide hb
  obtain ⟨N, h1, h2, hN, hmax⟩ : ∃ N : Nat, n ≤ N ∧ m ≤ N ∧ N ≤ 549755813888 ∧ max (n : Int) (m : Int) = (N : Int) := ⟨max n m, by omega, by omega, by omega, by omega⟩
  have HL := hide (And.intro (Nat.le_trans (Nat.le_of_eq ha.len) h1) (Nat.le_trans (Nat.le_of_eq hb.len) h2))
  clear ha hb
  obtain ⟨i0, hi0, hz0, hz1, hz2⟩ := info_parts Try.info_u32
  go_enter Try.func75, Try.ntmps75
  go_wp2_with fail
  go_loopw [5, 6, 7] (fun so sy si wx => ∃ (k y : Nat) (o : List Nat), k ≤ N ∧ si = .int .i64 k ∧ sy = .int .u64 y ∧ y ≤ 1 ∧ Hid (o.length = k ∧ Dig o ∧ val o + y * pw k = lo a k + lo b k) ∧ wx.ownsRow w.heap.size 50 1 so k (u32s o) ∧ Below w.heap.size w wx) (fun _ _ si _ => N - (intOf si).toNat)
  case atStart => exact ⟨0, 0, [], Nat.zero_le _, rfl, rfl, Nat.zero_le _, ⟨rfl, Dig.nil, by simp [lo_zero, val]⟩, own_lit _, below_lit _ _⟩
  case round =>
    obtain ⟨k, y, o, hk, rfl, rfl, hy, hI, hownr, hbx⟩ := hrel
    have hsz := hbx.size
    have hda := (unhide Ha).dig k
    have hdb := (unhide Hb).dig k
    by_cases hlt : k < N
    · have t0 : (k : Int) < (N : Int) := by omega
      have t0' : (k : Int) < max (n : Int) (m : Int) := by omega
      go_wp2_with fail
      refine (refDigit_c _ _ ((unhide Ha).below hbx) (by omega)).mono ?_
      rintro e w' ⟨rfl, rfl⟩
      go_wp2_with fail
      refine (refDigit_c _ _ ((unhide Hb).below hbx) (by omega)).mono ?_
      rintro e w' ⟨rfl, rfl⟩
      rw [Int.toNat_natCast]
      go_wp2_with (first
        | (at_builtin; refine wpList_append_own_at _ rfl (.tmp 28) (.tmp 31) 29 rfl w.heap.size 50 i0 (.int .u32 0) 1 4 Try.underlying29 hi0 hz0 hz1 hz2 rfl (by decide) _ _ _ (by rfl) (hownr.alloc _) ⟨wr.heap.size, 0, none⟩ 1 1 [.int .u32 _] rfl rfl (cell_one_new _ _ _) (by intro u hu; simp at hu; subst hu; rfl) (by simp only [maxLen]; omega) (by omega) (by simp; omega) ?_; intro v' w2 hown2 hg2 _ hat2))
      have hown3 := snoc_own (x := (dg a k + dg b k + y) % 4294967296) hown2 (by omega)
      have hb2 := grown_below hbx hownr hg2
      clear hown2 hg2 hat2 hownr
      go_wp2_with fail
      go_roundw
      case rel =>
        obtain ⟨h3, h4, h5⟩ := unhide hI
        exact ⟨k + 1, (dg a k + dg b k + y) / 4294967296, _, by omega, by go_num, by go_num, by omega, ⟨by rw [List.length_append, h3]; rfl, h4.append (Dig.one (by omega)), refadd_step h3 h5 (by omega)⟩, hown3, hb2⟩
      case measure => simp [intOf]; omega
    · have hkN : k = N := by omega
      have t0 : ¬ (k : Int) < (N : Int) := by omega
      have t0' : ¬ (k : Int) < max (n : Int) (m : Int) := by omega
      go_wp2_with (first
        | (at_builtin; refine wpList_append_own_at _ rfl (.tmp 35) (.tmp 38) 29 rfl w.heap.size 50 i0 (.int .u32 0) 1 4 Try.underlying29 hi0 hz0 hz1 hz2 rfl (by decide) _ _ _ (by rfl) (hownr.alloc _) ⟨wr.heap.size, 0, none⟩ 1 1 [.int .u32 _] rfl rfl (cell_one_new _ _ _) (by intro u hu; simp at hu; subst hu; rfl) (by simp only [maxLen]; omega) (by omega) (by simp; omega) ?_; intro v' w2 hown2 hg2 _ hat2))
      have hown3 := snoc_own (x := y) hown2 (by omega)
      have hb2 := grown_below hbx hownr hg2
      clear hown2 hg2 hat2 hownr
      obtain ⟨h3, h4, h5⟩ := unhide hI
      obtain ⟨A1, c1, rfl, ho⟩ := Own.of_row hown3 (h4.append (Dig.one (by omega))) (by rw [List.length_append, h3]; rfl)
      have hv : val (o ++ [y]) = val a + val b := refadd_end (h3.trans hkN) (unhide HL).1 (unhide HL).2 (by rw [← hkN]; exact h5)
      have HV := hide hv
      clear hv h3 h4 h5 hI
      go_wp2_with fail
      refine (refNormalize_c _ ho.toIn (by omega)).mono ?_
      rintro e w' ⟨A2, n2, c2, rfl, ho2, hw⟩
      go_wp2_with fail
      go_ret
      exact ⟨A2, n2, c2, _, rfl, trim_norm ho.dig, by rw [val_trim]; exact unhide HV, ho2.base (by have := hb2.size; omega), hb2.trans (hw.mono hb2.size)⟩

set_option maxRecDepth 100000 in
set_option maxHeartbeats 1000000 in
theorem refSub_c {A B : Option Addr} {n c m d : Nat} {a b : List Nat} (w : World) (ha : In w A n c a) (hb : In w B m d b) (hn : n ≤ 549755813888) :
    Calls Try.prog 100 #[.slice A n c, .slice B m d] w fun e w' => ∃ A' n' c' l, e = .returned (.tuple #[.slice A' n' c', .bool (decide (val b ≤ val a))]) ∧ Norm l ∧ val l = val a - val b ∧ Own w' w.heap.size A' n' c' l ∧ Below w.heap.size w w' := by
  have Ha := hide ha
  have Hb := hide hb
  by_cases hcmp : val a < val b
  · have K : Hid (cmpN (val a) (val b) = -1) := cmpN_lt hcmp
    have Hc := hide hcmp
    clear hcmp
    go_enter Try.func100, Try.ntmps100
    go_wp2_with fail
    refine (refCmp_c w ha hb).mono ?_
    rintro e w' ⟨rfl, ⟨q, rfl⟩⟩
    rw [unhide K]
    go_wp2_with fail
    go_ret2
    have := unhide Hc
    exact ⟨none, 0, 0, [], by rw [decide_eq_false (by omega)]; rfl, Norm.nil, by rw [val_nil]; omega, Own.nil_, below_drewN (Below.refl _ _) _⟩
  · obtain ⟨z, hz0, K⟩ : ∃ z, (0 : Int) ≤ z ∧ Hid (cmpN (val a) (val b) = z) := by
      refine ⟨_, ?_, rfl⟩
      unfold cmpN
      rw [if_neg hcmp]; split <;> omega
    have hdec : Hid (decide (val b ≤ val a) = true) := decide_eq_true (by omega)
    have Hc := hide hcmp
    have HL := hide ha.len
    clear hcmp ha hb
    obtain ⟨i0, hi0, hz0', hz1, hz2⟩ := info_parts Try.info_u32
    have hz0 := hz0'
    go_enter Try.func100, Try.ntmps100
    go_wp2_with fail
    refine (refCmp_c w (unhide Ha) (unhide Hb)).mono ?_
    rintro e w' ⟨rfl, ⟨q, rfl⟩⟩
    rw [unhide K]
    go_wp2_with fail
    go_loopw [6, 7, 8] (fun so sy si wx => ∃ (k y : Nat) (o : List Nat), k ≤ n ∧ si = .int .i64 k ∧ sy = .int .u64 y ∧ y ≤ 1 ∧ Hid (o.length = k ∧ Dig o ∧ val o + lo b k = lo a k + y * pw k) ∧ wx.ownsRow w.heap.size 50 1 so k (u32s o) ∧ Below w.heap.size w wx) (fun _ _ si _ => n - (intOf si).toNat)
    case atStart => exact ⟨0, 0, [], Nat.zero_le _, rfl, rfl, Nat.zero_le _, ⟨rfl, Dig.nil, by simp [lo_zero, val]⟩, own_lit _, (below_drewN (Below.refl _ _) q).alloc (Nat.le_refl _) _⟩
    case round =>
      obtain ⟨k, y, o, hk, rfl, rfl, hy, hI, hownr, hbx⟩ := hrel
      have hsz := hbx.size
      have hda := (unhide Ha).dig k
      have hdb := (unhide Hb).dig k
      by_cases hlt : k < n
      · have t0 : (k : Int) < (n : Int) := by omega
        go_wp2_with fail
        refine (refDigit_c _ _ ((unhide Ha).below hbx) (by omega)).mono ?_
        rintro e w' ⟨rfl, rfl⟩
        go_wp2_with fail
        refine (refDigit_c _ _ ((unhide Hb).below hbx) (by omega)).mono ?_
        rintro e w' ⟨rfl, rfl⟩
        rw [Int.toNat_natCast]
        go_wp2_with (first
          | (at_builtin; refine wpList_append_own_at _ rfl (.tmp 31) (.tmp 34) 29 rfl w.heap.size 50 i0 (.int .u32 0) 1 4 Try.underlying29 hi0 hz0 hz1 hz2 rfl (by decide) _ _ _ (by rfl) (hownr.alloc _) ⟨wr.heap.size, 0, none⟩ 1 1 [.int .u32 _] rfl rfl (cell_one_new _ _ _) (by intro u hu; simp at hu; subst hu; rfl) (by simp only [maxLen]; omega) (by omega) (by simp; omega) ?_; intro v' w2 hown2 hg2 _ hat2))
        have hown3 := snoc_own (x := (4294967296 + dg a k - dg b k - y) % 4294967296) hown2 (by omega)
        have hb2 := grown_below hbx hownr hg2
        clear hown2 hg2 hat2 hownr
        go_wp2_with fail
        go_roundw
        case rel =>
          obtain ⟨h3, h4, h5⟩ := unhide hI
          exact ⟨k + 1, 1 - (4294967296 + dg a k - dg b k - y) / 4294967296, _, by omega, by go_num, congrArg (Value.int .u64) (by omega), by omega, ⟨by rw [List.length_append, h3]; rfl, h4.append (Dig.one (by omega)), refsub_step h3 h5 (by omega)⟩, hown3, hb2⟩
        case measure => simp [intOf]; omega
      · obtain rfl : k = n := by omega
        obtain ⟨h3, h4, h5⟩ := unhide hI
        obtain ⟨A1, c1, rfl, ho⟩ := Own.of_row hownr h4 h3
        have hv : val o = val a - val b := refsub_end h3 h4 (unhide HL) (unhide Ha).dig (by have := unhide Hc; omega) h5
        have HV := hide hv
        clear hv h3 h4 h5 hI
        go_wp2_with fail
        refine (refNormalize_c _ ho.toIn (by omega)).mono ?_
        rintro e w' ⟨A2, n2, c2, rfl, ho2, hw⟩
        go_wp2_with fail
        go_ret2
        rw [unhide hdec]
        exact ⟨A2, n2, c2, _, rfl, trim_norm ho.dig, by rw [val_trim]; exact unhide HV, ho2.base (by have := hbx.size; omega), hbx.trans (hw.mono hbx.size)⟩

set_option maxRecDepth 100000 in
set_option maxHeartbeats 1000000 in
theorem refTimes_c {A : Option Addr} {n c : Nat} {a : List Nat} (d : Nat) (w : World) (ha : In w A n c a) (hn : n ≤ 549755813888) (hd : d < 4294967296) :
    Calls Try.prog 76 #[.slice A n c, .int .u64 d] w (RetN w (val a * d)) := by
  have Ha := hide ha
  have HL := hide ha.len
  clear ha
  obtain ⟨i0, hi0, hz0, hz1, hz2⟩ := info_parts Try.info_u32
  go_enter Try.func76, Try.ntmps76
  go_wp2_with fail
  go_loopw [5, 6, 7] (fun so sy si wx => ∃ (k y : Nat) (o : List Nat), k ≤ n ∧ si = .int .i64 k ∧ sy = .int .u64 y ∧ y < 4294967296 ∧ Hid (o.length = k ∧ Dig o ∧ val o + y * pw k = lo a k * d) ∧ wx.ownsRow w.heap.size 50 1 so k (u32s o) ∧ Below w.heap.size w wx) (fun _ _ si _ => n - (intOf si).toNat)
  case atStart => exact ⟨0, 0, [], Nat.zero_le _, rfl, rfl, by omega, ⟨rfl, Dig.nil, by simp [lo_zero, val]⟩, own_lit _, below_lit _ _⟩
  case round =>
    obtain ⟨k, y, o, hk, rfl, rfl, hy, hI, hownr, hbx⟩ := hrel
    have hsz := hbx.size
    have hda := (unhide Ha).dig k
    by_cases hlt : k < n
    · have t0 : (k : Int) < (n : Int) := by omega
      obtain ⟨ad, rfl, hcell⟩ := ((unhide Ha).below hbx).at_ (k := k) hlt
      have hml := mul_le32 hda hd
      obtain ⟨s, hs⟩ : ∃ s, s = dg a k * d + y := ⟨_, rfl⟩
      have hsi : (dg a k : Int) * (d : Int) + (y : Int) = (s : Int) := by rw [hs]; simp
      have hmi : (dg a k : Int) * (d : Int) ≤ 18446744065119617025 ∧ 0 ≤ (dg a k : Int) * (d : Int) := mul_le32i hda hd
      have hsb : (s : Int) ≤ 18446744069414584320 := by omega
      have HS := hide hs
      clear hs hml
      go_wp2_with (first
        | (at_builtin; refine wpList_append_own_at _ rfl (.tmp 25) (.tmp 28) 29 rfl w.heap.size 50 i0 (.int .u32 0) 1 4 Try.underlying29 hi0 hz0 hz1 hz2 rfl (by decide) _ _ _ (by rfl) (hownr.alloc _) ⟨wr.heap.size, 0, none⟩ 1 1 [.int .u32 _] rfl rfl (cell_one_new _ _ _) (by intro u hu; simp at hu; subst hu; rfl) (by simp only [maxLen]; omega) (by omega) (by simp; omega) ?_; intro v' w2 hown2 hg2 _ hat2))
      have hown3 := snoc_own (x := s % 4294967296) hown2 (by omega)
      have hb2 := grown_below hbx hownr hg2
      clear hown2 hg2 hat2 hownr
      go_wp2_with fail
      go_roundw
      case rel =>
        obtain ⟨h3, h4, h5⟩ := unhide hI
        exact ⟨k + 1, s / 4294967296, _, by omega, by go_num, congrArg (Value.int .u64) (by omega), by omega, ⟨by rw [List.length_append, h3]; rfl, h4.append (Dig.one (by omega)), reftimes_step h3 h5 (by rw [← unhide HS]; omega)⟩, hown3, hb2⟩
      case measure => simp [intOf]; omega
    · obtain rfl : k = n := by omega
      go_wp2_with (first
        | (at_builtin; refine wpList_append_own_at _ rfl (.tmp 32) (.tmp 35) 29 rfl w.heap.size 50 i0 (.int .u32 0) 1 4 Try.underlying29 hi0 hz0 hz1 hz2 rfl (by decide) _ _ _ (by rfl) (hownr.alloc _) ⟨wr.heap.size, 0, none⟩ 1 1 [.int .u32 _] rfl rfl (cell_one_new _ _ _) (by intro u hu; simp at hu; subst hu; rfl) (by simp only [maxLen]; omega) (by omega) (by simp; omega) ?_; intro v' w2 hown2 hg2 _ hat2))
      have hown3 := snoc_own (x := y) hown2 (by omega)
      have hb2 := grown_below hbx hownr hg2
      clear hown2 hg2 hat2 hownr
      obtain ⟨h3, h4, h5⟩ := unhide hI
      obtain ⟨A1, c1, rfl, ho⟩ := Own.of_row hown3 (h4.append (Dig.one (by omega))) (by rw [List.length_append, h3]; rfl)
      have hv : val (o ++ [y]) = val a * d := by rw [val_snoc h3, h5, lo_all (by rw [unhide HL]; omega)]
      have HV := hide hv
      clear hv h3 h4 h5 hI
      go_wp2_with fail
      refine (refNormalize_c _ ho.toIn (by omega)).mono ?_
      rintro e w' ⟨A2, n2, c2, rfl, ho2, hw⟩
      go_wp2_with fail
      go_ret
      exact ⟨A2, n2, c2, _, rfl, trim_norm ho.dig, by rw [val_trim]; exact unhide HV, ho2.base (by have := hb2.size; omega), hb2.trans (hw.mono hb2.size)⟩

set_option maxRecDepth 100000 in
set_option maxHeartbeats 1000000 in
theorem refBitLen_c {A : Option Addr} {n c : Nat} {a : List Nat} (w : World) (ha : In w A n c a) (hn : n ≤ 274877906944) :
    Calls Try.prog 110 #[.slice A n c] w fun e w' => e = .returned (.int .i64 (bitsN (val a) : Nat)) ∧ Below w.heap.size w w' := by
  go_enter Try.func110, Try.ntmps110
  go_wp2_with fail
  refine (refNormalize_c w ha (by omega)).mono ?_
  rintro e w1 ⟨At, nt, ct, rfl, ot, hw⟩
  have Nt := trim_norm ha.dig
  have vt := val_trim a
  have hl := ot.toIn.len
  have ht : (trim a).length ≤ n := by have := trim_length_le a; have := ha.len; omega
  obtain ⟨l, hlt⟩ : ∃ l, l = trim a := ⟨_, rfl⟩
  rw [← hlt] at ot Nt vt hl ht
  have hnt : nt ≤ n := by omega
  have it := ot.toIn
  have VT := hide vt
  clear hlt ht vt ha
  by_cases h0 : nt = 0
  · subst h0
    have hv : Hid (bitsN (val a) = 0) := by
      show _ = _
      rw [← unhide VT, List.length_eq_zero_iff.1 hl]; rfl
    clear hl
    go_wp2_with fail
    go_ret
    rw [unhide hv]
    exact ⟨rfl, hw⟩
  · obtain ⟨p, rfl⟩ : ∃ p, nt = p + 1 := ⟨nt - 1, by omega⟩
    have hd0 : dg l p ≠ 0 := by
      rcases Nt.2 with e | e
      · rw [e] at hl; simp at hl
      · rw [hl] at e; exact e
    have hb := top_bits Nt.dig hl hd0
    have hT := Nt.dig p
    obtain ⟨T, hTe⟩ : ∃ T, T = dg l p := ⟨_, rfl⟩
    obtain ⟨ad, rfl, hcell⟩ := it.at_ (k := p) (by omega)
    have t0 : ((p : Int) + 1 == 0) = false := by simp; omega
    rw [← hTe] at hcell hb hT
    have HB := hide hb
    have h32 := bitLen_le32 hT
    clear hl hd0 hb hTe h0
    go_wp2_with fail
    go_loop [4, 5] (fun sn st => ∃ (t z : Nat), sn = .int .i64 ((32 * p + z : Nat) : Int) ∧ st = .int .u32 t ∧ t < 4294967296 ∧ z ≤ 32 ∧ Hid (z + Lib.bitLen t = Lib.bitLen T)) (fun _ st => (intOf st).toNat)
    case atStart => exact ⟨T, 0, congrArg (Value.int .i64) (by omega), rfl, hT, by omega, Nat.zero_add _⟩
    case round =>
      obtain ⟨t, z, rfl, rfl, ht, hz, hI⟩ := hrel
      by_cases ht0 : t = 0
      · subst ht0
        have hz' : Hid (bitsN (val a) = 32 * p + z) := by
          show _ = _
          rw [← unhide VT, unhide HB, ← unhide hI, bitLen_zero, Nat.add_zero]
        go_wp2_with fail
        go_ret
        rw [unhide hz']
        exact ⟨rfl, hw⟩
      · have t1 : (0 : Int) < (t : Int) := by omega
        have hI2 : Hid (z + 1 + Lib.bitLen (t / 2) = Lib.bitLen T) := by
          show _ = _
          rw [← unhide hI, Lib.bitLen_half t ht0 (by omega)]; omega
        have hz2 : z + 1 ≤ 32 := by have := unhide hI2; omega
        clear ht0
        go_wp2_with fail
        go_round
        case rel => exact ⟨t / 2, z + 1, congrArg (Value.int .i64) (by omega), congrArg (Value.int .u32) (by omega), by omega, by omega, hI2⟩
        case measure => simp [intOf]; omega

end Go.Proofs.Ytlpnjoenkohadaa
