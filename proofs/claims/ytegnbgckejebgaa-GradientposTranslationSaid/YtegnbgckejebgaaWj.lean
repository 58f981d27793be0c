/-
  Walks over natural: BitLen, GCD, Sqrt.
-/
import Derived.Test.YtegnbgckejebgaaWi
import Derived.Test.YtegnbgckejebgaaNumD
import Derived.Deep.LoopGhost
namespace Go.Proofs.Ytegnbgckejebgaa
set_option linter.unusedVariables false
set_option linter.unusedSimpArgs false
open Go.RowKit

theorem len32_c (x : Nat) (h : x < 4294967296) (w : World) :
    Calls Try.prog 95 #[.int .u32 x] w fun e w' => e = .returned (.int .i64 ((Lib.bitLen x : Nat) : Int)) ∧ w = w' :=
  (Try.bits_Len32 x w (by omega) (by omega)).mono fun _ _ ⟨h1, h2⟩ => by
    rw [Int.toNat_natCast] at h1
    exact ⟨h1, h2.symm⟩

set_option maxRecDepth 100000 in
set_option maxHeartbeats 1000000 in
theorem bitLen_c {A : Option Addr} {n c : Nat} {a : List Nat} (w : World) (ha : In w A n c a) (hn : n ≤ 274877906944) :
    Calls Try.prog 66 #[.slice A n c] w fun e w' => e = .returned (.int .i64 (bitsN (val a) : Nat)) ∧ w = w' := by
  have hta := tlen_le a n
  have Ta := ha.trim
  have na := trim_norm ha.dig
  have va : Hid (val (trim a) = val a) := val_trim a
  obtain ⟨p, hp⟩ : ∃ p, p = tlen a n := ⟨_, rfl⟩
  rw [← hp] at Ta hta
  have HP := hide hp
  clear hp
  have Ha := hide ha
  clear ha
  by_cases h0 : p = 0
  · subst h0
    go_enter Try.func66, Try.ntmps66
    go_wp2_with fail
    refine (short_c w (unhide Ha)).mono ?_
    rintro e w' ⟨rfl, rfl⟩
    rw [← unhide HP]
    go_wp2_with fail
    go_ret
    refine ⟨?_, rfl⟩
    have : val a = 0 := by rw [← unhide va, List.length_eq_zero_iff.1 Ta.len]; rfl
    rw [this]; rfl
  · obtain ⟨t, ht⟩ : ∃ t, p = t + 1 := ⟨p - 1, by omega⟩
    have hx := Ta.dig t
    obtain ⟨ad, hA, hc⟩ := Ta.at_ (k := t) (by omega)
    have hnz : dg (trim a) t ≠ 0 := by
      rcases na.2 with h | h
      · have := Ta.len; rw [h] at this; simp only [List.length_nil] at this; omega
      · rw [Ta.len, ht] at h; exact h
    have htb := top_bits Ta.dig (by rw [Ta.len]; exact ht) hnz
    rw [unhide va] at htb
    have hbl := bitLen_le32 hx
    have l0 : ((p : Int) == 0) = false := by simp; omega
    have l1 : (p : Int) - 1 = (t : Int) := by omega
    have l2 : t < p := by omega
    have HTB := hide htb
    clear htb ht hnz h0
    subst hA
    go_enter Try.func66, Try.ntmps66
    go_wp2_with fail
    refine (short_c w (unhide Ha)).mono ?_
    rintro e w' ⟨rfl, rfl⟩
    rw [← unhide HP]
    go_wp2_with fail
    refine (len32_c _ hx w).mono ?_
    rintro e w' ⟨rfl, rfl⟩
    go_wp2_with fail
    go_ret
    refine ⟨?_, rfl⟩
    rw [unhide HTB]
    exact congrArg (fun x => Ending.returned (Value.int .i64 x)) (by omega)

set_option maxRecDepth 100000 in
set_option maxHeartbeats 1000000 in
theorem gcd_c {A B : Option Addr} {n c m d : Nat} {a b : List Nat} (w : World) (ha : In w A n c a) (hb : In w B m d b) (hn : n ≤ 274877906944) (hm : m ≤ 274877906944) :
    Calls Try.prog 87 #[.slice A n c, .slice B m d] w (RetN w (Nat.gcd (val a) (val b))) := by
  have hla := trim_length_le a
  have hlb := trim_length_le b
  rw [ha.len] at hla
  rw [hb.len] at hlb
  have na := trim_norm ha.dig
  have nb := trim_norm hb.dig
  have va : Hid (val (trim a) = val a) := val_trim a
  have vb : Hid (val (trim b) = val b) := val_trim b
  go_enter Try.func87, Try.ntmps87
  go_wp2_with fail
  refine (normalize_c w ha (by omega)).mono ?_
  rintro e w1 ⟨A1, n1, c1, rfl, ho1, hw1⟩
  go_wp2_with fail
  refine (normalize_c w1 (hb.below hw1) (by omega)).mono ?_
  rintro e w2 ⟨A2, n2, c2, rfl, ho2, hw2⟩
  go_wp2_with fail
  have hn1 := ho1.len
  have hn2 := ho2.len
  go_loopg [0, 1] (val b) (fun gk sa sb wx => ∃ (X Y : Option Addr) (p r q s : Nat) (x y : List Nat), sa = .slice X p r ∧ sb = .slice Y q s ∧ Hid (val y = gk) ∧ Own wx w.heap.size X p r x ∧ Own wx w.heap.size Y q s y ∧ Norm x ∧ Norm y ∧ p ≤ 274877906944 ∧ q ≤ 274877906944 ∧
    Hid (Nat.gcd (val x) (val y) = Nat.gcd (val a) (val b)) ∧ Below w.heap.size w wx)
  case atStart =>
    exact ⟨A1, A2, n1, c1, n2, c2, trim a, trim b, rfl, rfl, val_trim b, ho1.below hw2, ho2.base hw1.size, na, nb, by omega, by omega, (by show _ = _; rw [val_trim, val_trim]), hw1.trans (hw2.mono hw1.size)⟩
  case round =>
    obtain ⟨X, Y, p, r, q, s, x, y, rfl, rfl, hk, hox, hoy, nx, ny, hp, hq, hg, hbx⟩ := hrel
    have hqi := hoy.toIn.lenI
    by_cases h0 : q = 0
    · have hy0 : y = [] := List.length_eq_zero_iff.1 (by rw [hoy.len]; exact h0)
      have hg' : Hid (val x = Nat.gcd (val a) (val b)) := by
        have := unhide hg
        rw [hy0, val_nil, Nat.gcd_zero_right] at this
        exact this
      subst h0
      clear hy0
      go_wp2_with fail
      go_ret
      exact ⟨X, p, r, x, rfl, nx, unhide hg', hox, hbx⟩
    · have hy0 : val y ≠ 0 := by
        intro h
        have h1 := ny.zero h
        have h2 := hoy.len
        rw [h1] at h2
        simp only [List.length_nil] at h2
        omega
      have hqp : 0 < q := by omega
      clear h0
      go_wp2_with fail
      refine (divmod_c wr hox.toIn hoy.toIn hp hq).mono ?_
      rintro e w3 ⟨A3, n3, c3, l3, A4, n4, c4, l4, rfl, hN3, hv3, hN4, hv4, ho3, ho4, hw3⟩
      rw [modN_pos hy0] at hv4
      have hlt4 : val l4 < val y := by rw [hv4]; exact Nat.mod_lt _ (by omega)
      have hn4 : n4 ≤ 274877906944 := by
        have h1 := hN4.length_le (Nat.lt_trans hlt4 (val_lt hoy.dig))
        have := ho4.len; have := hoy.len
        omega
      have F := hide (And.intro hv3 (And.intro hv4 (And.intro hlt4 hy0)))
      clear hv3 hv4 hlt4 hy0
      go_wp2_with fail
      go_roundg (val l4)
      case measure => have := unhide hk; have := (unhide F).2.2.1; omega
      case rel =>
        refine ⟨Y, A4, q, s, n4, c4, y, l4, rfl, rfl, rfl, hoy.below hw3, ho4.base hbx.size, ny, hN4, hq, hn4, ?_, hbx.trans (hw3.mono hbx.size)⟩
        show _ = _
        rw [(unhide F).2.1, ← unhide hg, Nat.gcd_comm (val x), Nat.gcd_rec (val y) (val x), Nat.gcd_comm]

/-- Bounds on the length of a normalized list by its number. -/
theorem Norm.len_lt {l : List Nat} (h : Norm l) {k : Nat} (hv : val l < 2 ^ (32 * k)) : l.length ≤ k := h.length_le (by rw [pw_two]; exact hv)

set_option maxRecDepth 100000 in
set_option maxHeartbeats 1000000 in
theorem sqrt_c {A : Option Addr} {n c : Nat} {a : List Nat} (w : World) (ha : In w A n c a) (hn : n ≤ 137438953472) :
    Calls Try.prog 39 #[.slice A n c] w fun e w' => ∃ r, IsSqrt (val a) r ∧ RetN w r e w' := by
  have hbl : bitsN (val a) ≤ 32 * n := bitsN_lt (by rw [← pw_two]; exact val_lt_of ha.dig (Nat.le_of_eq ha.len))
  by_cases h0 : val a = 0
  · have hb0 : ((bitsN (val a) : Int) == 0) = true := by rw [bitsN_zero.2 h0]; rfl
    have H0 := hide h0
    clear h0 hbl
    go_enter Try.func39, Try.ntmps39
    go_wp2_with fail
    refine (bitLen_c w ha (by omega)).mono ?_
    rintro e w' ⟨rfl, rfl⟩
    go_wp2_with fail
    go_ret
    exact ⟨0, ⟨by omega, by have := unhide H0; omega⟩, none, 0, 0, [], rfl, Norm.nil, rfl, Own.nil_, Below.refl _ _⟩
  · have hb0 : ((bitsN (val a) : Int) == 0) = false := by
      have := mt bitsN_zero.1 h0
      simp; omega
    obtain ⟨M, hM⟩ : ∃ M, M = (bitsN (val a) + 1) / 2 := ⟨_, rfl⟩
    have hMn : M ≤ 16 * n + 1 := by omega
    have hMi : ((bitsN (val a) : Int) + 1) / 2 = (M : Int) := by omega
    have HM := hide hM
    have H0 := hide h0
    clear hM h0
    go_enter Try.func39, Try.ntmps39
    go_wp2_with fail
    refine (bitLen_c w ha (by omega)).mono ?_
    rintro e w' ⟨rfl, rfl⟩
    go_wp2_with fail
    refine (fromUint64_c 1 (by omega) w).mono ?_
    rintro e w1 ⟨A1, n1, c1, l1, rfl, hN1, hv1, ho1, hw1⟩
    go_wp2_with fail
    refine (bitLen_c w1 (ha.below hw1) (by omega)).mono ?_
    rintro e w' ⟨rfl, rfl⟩
    go_wp2_with fail
    have hn1 : n1 ≤ 1 := by
      have := hN1.len_lt (k := 1) (by rw [hv1]; decide)
      have := ho1.len; omega
    simp only [hMi, hb0]
    clear hMi hb0
    go_loopw [3, 16] (fun sx si wx => ∃ (i : Nat) (X : Option Addr) (p r : Nat) (x : List Nat), i ≤ M ∧ si = .int .i64 i ∧ sx = .slice X p r ∧ Own wx w.heap.size X p r x ∧ Norm x ∧ p ≤ n + 3 ∧ Hid (val x = 2 ^ i) ∧ Below w.heap.size w wx) (fun _ si _ => M - (intOf si).toNat)
    case atStart => exact ⟨0, A1, n1, c1, l1, Nat.zero_le _, rfl, rfl, ho1, hN1, by omega, hv1, hw1⟩
    case round =>
      obtain ⟨i, X, p, r, x, hi, rfl, rfl, hox, hNx, hp, hvx, hbx⟩ := hrel
      by_cases hlt : i < M
      · go_wp2_with fail
        refine (add_c wr hox.toIn hox.toIn (by omega) (by omega)).mono ?_
        rintro e w2 ⟨A2, n2, c2, l2, rfl, hN2, hv2, ho2, hw2⟩
        have hv2' : val l2 = 2 ^ (i + 1) := by rw [hv2, unhide hvx, Nat.pow_succ]; omega
        have hn2 : n2 ≤ n + 3 := by
          have h1 := hN2.len_lt (k := n + 3) (by rw [hv2']; exact Nat.pow_lt_pow_right (by omega) (by omega))
          have := ho2.len; omega
        have HV := hide hv2'
        clear hv2 hv2'
        go_wp2_with fail
        go_roundw
        case rel => exact ⟨i + 1, A2, n2, c2, l2, by omega, by go_num, rfl, ho2.base hbx.size, hN2, hn2, HV, hbx.trans (hw2.mono hbx.size)⟩
        case measure => simp [intOf]; omega
      · obtain rfl : M = i := by omega
        go_wp2_with fail
        go_loopg [3] (val x) (fun gk sx wx => ∃ (X : Option Addr) (p r : Nat) (x : List Nat), sx = .slice X p r ∧ Own wx w.heap.size X p r x ∧ Norm x ∧ p ≤ n + 3 ∧ Hid (val x = gk ∧ 1 ≤ val x ∧ val a < (val x + 1) * (val x + 1)) ∧ Below w.heap.size w wx)
        case atStart =>
          refine ⟨X, p, r, x, rfl, hox, hNx, hp, ⟨rfl, ?_, ?_⟩, hbx⟩
          · rw [unhide hvx]; exact two_pos _
          · rw [unhide hvx, unhide HM]; exact sqrt_start
        case round =>
          obtain ⟨X, p, r, x, rfl, hox, hNx, hp, hI, hbx⟩ := hrel
          obtain ⟨hI1, hI2, hI3⟩ := unhide hI
          have hx0 : val x ≠ 0 := by omega
          clear hI1 hI2 hI3
          go_wp2_with fail
          refine (divmod_c wr (ha.below hbx) hox.toIn (by omega) (by omega)).mono ?_
          rintro e w3 ⟨A3, n3, c3, l3, A4, n4, c4, l4, rfl, hN3, hv3, hN4, hv4, ho3, ho4, hw3⟩
          have hn3 : n3 ≤ n + 3 := by
            have h1 := hN3.length_le (k := n) (by rw [hv3]; exact Nat.lt_of_le_of_lt (Nat.div_le_self _ _) (val_lt_of ha.dig (Nat.le_of_eq ha.len)))
            have := ho3.len; omega
          have hox3 := hox.below hw3
          go_wp2_with fail
          refine (add_c w3 hox3.toIn ho3.toIn (by omega) (by omega)).mono ?_
          rintro e w4 ⟨A5, n5, c5, l5, rfl, hN5, hv5, ho5, hw5⟩
          have hn5 : n5 ≤ n + 4 := by
            have h1 := hN5.length_le (k := n + 4) (by
              rw [hv5]
              have h2 := val_lt_of hox.dig (Nat.le_trans (Nat.le_of_eq hox.len) hp)
              have h3 := val_lt_of ho3.dig (Nat.le_trans (Nat.le_of_eq ho3.len) hn3)
              rw [show n + 4 = (n + 3) + 1 by omega, pw_succ]
              omega)
            have := ho5.len; omega
          have hox4 := hox3.below hw5
          go_wp2_with fail
          refine (shift_c (-1) w4 ho5.toIn (by omega) (by omega) (by omega)).mono ?_
          rintro e w5 ⟨A6, n6, l6, rfl, hN6, hv6, ho6, hw6⟩
          have hv6' : val l6 = (val x + val a / val x) / 2 := by
            rw [hv6, hv5, hv3, show (-1 : Int) = -((1 : Nat) : Int) from rfl, shiftN_neg]
          have hox5 := hox4.below hw6
          have hb3 := hbx.trans (hw3.mono hbx.size)
          have hb4 := hb3.trans (hw5.mono hb3.size)
          have hb5 := hb4.trans (hw6.mono hb4.size)
          have F := hide (And.intro hv6' hx0)
          clear hv6 hv6' hv5 hv3 hv4 hx0
          go_wp2_with fail
          refine (cmp_c w5 ho6.toIn hox5.toIn).mono ?_
          rintro e w6 ⟨rfl, hqd⟩
          have hs := sqrt_step (a := val a) (by have := (unhide F).2; omega) (unhide F).1
          by_cases hcmp : val l6 < val x
          · have K : Hid (cmpN (val l6) (val x) = -1) := cmpN_lt hcmp
            rw [unhide K]
            have hl6 : 1 ≤ val l6 := by
              obtain ⟨h1, h2⟩ := unhide F
              have h3 := unhide H0
              rcases Nat.lt_or_ge 1 (val x) with h4 | h4
              · generalize val a / val x = q at h1
                omega
              · have h5 : val x = 1 := by omega
                rw [h5, Nat.div_one] at h1
                omega
            have HS := hide (And.intro hs.1 (And.intro hl6 hcmp))
            have hn6 : n6 ≤ n + 3 := by
              have h1 := hN6.length_le (Nat.lt_trans hcmp (val_lt_of hox.dig (Nat.le_trans (Nat.le_of_eq hox.len) hp)))
              have := ho6.len; omega
            clear hs hl6 hcmp
            go_wp2_with fail
            go_roundg (val l6)
            case measure => have := (unhide HS).2.2; have := (unhide hI).1; omega
            case rel =>
              obtain ⟨q, rfl⟩ := hqd
              exact ⟨A6, n6, n6, l6, rfl, (ho6.base hb4.size).drewN q, hN6, hn6, ⟨rfl, (unhide HS).2.1, (unhide HS).1⟩, below_drewN hb5 q⟩
          · obtain ⟨z, hz0, K⟩ : ∃ z, (0 : Int) ≤ z ∧ Hid (cmpN (val l6) (val x) = z) := by
              refine ⟨_, ?_, rfl⟩
              unfold cmpN
              rw [if_neg hcmp]; split <;> omega
            rw [unhide K]
            have HS := hide (hs.2 (by omega))
            clear hs hcmp
            go_wp2_with fail
            go_ret
            obtain ⟨q, rfl⟩ := hqd
            exact ⟨val x, ⟨unhide HS, (unhide hI).2.2⟩, X, p, r, x, rfl, hNx, rfl, hox5.drewN q, below_drewN hb5 q⟩

end Go.Proofs.Ytegnbgckejebgaa
