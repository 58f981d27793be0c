/-
  Walks over natural: guess, take.
-/
import Derived.Test.YtlpnjoenkohadaaWe
import Derived.Test.YtlpnjoenkohadaaNumC
namespace Go.Proofs.Ytlpnjoenkohadaa
set_option linter.unusedVariables false
set_option linter.unusedSimpArgs false
open Go.RowKit

theorem guess_new {q r x top U V : Nat} (hq : 1 ≤ q) (h : q * x + r = top) (hd : U < q * V) : (q - 1) * x + (r + x) = top ∧ U < (q - 1 + 1) * V := by
  obtain ⟨m, rfl⟩ : ∃ m, q = m + 1 := ⟨q - 1, by omega⟩
  rw [Nat.add_sub_cancel]
  rw [Nat.add_mul] at h
  exact ⟨by omega, hd⟩

set_option maxRecDepth 100000 in
set_option maxHeartbeats 2000000 in
theorem guess_c {UA VA : Option Addr} {m uc vc : Nat} {u v : List Nat} (w : World) (hU : In w UA (m + 3) uc u) (hV : In w VA (m + 2) vc v) (hv1 : 2147483648 ≤ dg v (m + 1)) (hUV : val u < 4294967296 * val v) :
    Calls Try.prog 105 #[.slice UA (m + 3) uc, .slice VA (m + 2) vc] w fun e w' => ∃ q : Nat, e = .returned (.int .u64 q) ∧ GuessOk (val u) (val v) q ∧ Qd w w' := by
  have hn := hU.lenI
  obtain ⟨ad, hA, c0⟩ := hU.at_ (k := m + 2) (by omega)
  obtain ⟨ad1, hA1, c1⟩ := hU.at_ (k := m + 1) (by omega)
  obtain ⟨ad2, hA2, c2⟩ := hU.at_ (k := m) (by omega)
  obtain rfl : ad = ad1 := by rw [hA] at hA1; injection hA1
  obtain rfl : ad = ad2 := by rw [hA] at hA2; injection hA2
  clear hA1 hA2
  obtain ⟨bd, hB, d1⟩ := hV.at_ (k := m + 1) (by omega)
  obtain ⟨bd1, hB1, d2⟩ := hV.at_ (k := m) (by omega)
  obtain rfl : bd = bd1 := by rw [hB] at hB1; injection hB1
  clear hB1
  have x0 := hU.dig (m + 2)
  have x1 := hU.dig (m + 1)
  have x2 := hU.dig m
  have y1 := hV.dig (m + 1)
  have y2 := hV.dig m
  have eU : val u = ((dg u (m + 2) * 4294967296 + dg u (m + 1)) * 4294967296 + dg u m) * pw m + pl u 0 m := by
    have := three_lists (l := u) (k := 0) (n := m)
    rw [Nat.zero_add, Nat.zero_add, Nat.zero_add] at this
    rw [← this, pl, List.drop_zero, lo_all (by rw [hU.len]; exact Nat.le_refl _)]
  have eV : val v = (dg v (m + 1) * 4294967296 + dg v m) * pw m + lo v m := by
    rw [← two_lists, lo_all (by rw [hV.len]; exact Nat.le_refl _)]
  have hru := pl_lt hU.dig 0 m
  have hrv := lo_lt hV.dig m
  obtain ⟨top, htop⟩ : ∃ top, top = dg u (m + 2) * 4294967296 + dg u (m + 1) := ⟨_, rfl⟩
  have hor : bits .or .u64 ((dg u (m + 2) : Int) * 4294967296) (dg u (m + 1) : Int) = (top : Int) := by rw [htop]; exact or_join x0 x1
  rw [← htop] at eU
  obtain ⟨g1, g2, g3, g4⟩ := guess_init eU eV hru hrv x2 y2 hv1 hUV
  have ht64 : (top : Int) ≤ 18446744073709551615 := by omega
  have F := hide (And.intro eU (And.intro eV (And.intro hru (And.intro hrv (And.intro hUV (And.intro g1 (And.intro g2 (And.intro g3 (And.intro g4 htop)))))))))
  clear eU eV hru hrv hUV g1 g2 g3 g4 htop
  subst hA
  subst hB
  obtain ⟨n, hn2⟩ : ∃ n, n = m + 2 := ⟨_, rfl⟩
  obtain ⟨k, hk⟩ : ∃ k, k = m + 1 := ⟨_, rfl⟩
  rw [show m + 3 = n + 1 by omega, ← hn2]
  rw [← hn2] at c0 hor
  rw [← hk] at c1 d1 y1 hor hv1
  have b1 : (m : Int) < n := by omega
  have b2 : (k : Int) < n := by omega
  have b3 : (n : Int) < 9223372036854775807 := by omega
  have b4 : (n : Int) < (n : Int) + 1 := by omega
  have b5 : (m : Int) < (n : Int) + 1 := by omega
  have b6 : (k : Int) < (n : Int) + 1 := by omega
  have e1 : IntKind.i64.wrap ((n : Int) - 1) = k := by rw [IntWalk.i64_in _ (by omega)]; omega
  have e2 : IntKind.i64.wrap ((n : Int) - 2) = m := by rw [IntWalk.i64_in _ (by omega)]; omega
  obtain ⟨q0, hq0⟩ : ∃ q, q = top / dg v k := ⟨_, rfl⟩
  obtain ⟨r0, hr0⟩ : ∃ r, r = top % dg v k := ⟨_, rfl⟩
  have hr0b : r0 < dg v k := by rw [hr0]; exact Nat.mod_lt _ (by omega)
  have hq0b : q0 ≤ 4294967297 := by rw [hq0, hk]; exact (unhide F).2.2.2.2.2.2.2.2.1
  have f1 : IntKind.u64.wrap (dg u n : Int) = (dg u n : Int) := by rw [u64_wrap, hn2]; omega
  have f2 : IntKind.u64.wrap ((dg u n : Int) * 4294967296) = (dg u n : Int) * 4294967296 := by rw [u64_wrap, hn2]; omega
  have f3 : IntKind.u64.wrap (dg u k : Int) = (dg u k : Int) := by rw [u64_wrap, hk]; omega
  have f4 : (top : Int).tdiv (dg v k : Int) = (q0 : Int) := by rw [Int.tdiv_eq_ediv_of_nonneg (by omega), hq0, Int.natCast_ediv]
  have f5 : IntKind.u64.wrap (q0 : Int) = (q0 : Int) := by rw [u64_wrap]; omega
  have f6 : (top : Int).tmod (dg v k : Int) = (r0 : Int) := by rw [Int.tmod_eq_emod_of_nonneg (by omega), hr0, Int.natCast_emod]
  have f7 : IntKind.u64.wrap (dg v k : Int) = (dg v k : Int) := by rw [u64_wrap]; omega
  have F2 := hide (And.intro hn2 (And.intro hk (And.intro hq0 hr0)))
  clear hn2 hk hq0 hr0
  clear hU hV hn
  go_enter Try.func105, Try.ntmps105
  go_wp2_with fail
  go_quiet (fail)
  go_wp2_with fail
  go_quiet (fail)
  go_wp2_with fail
  clear f1 f2 f3 f4 f5 f6 hor
  have hdec : Hid (∀ q r : Nat, q * dg v k + r = top → (4294967296 ≤ q ∨ r * 4294967296 + dg u m < q * dg v m) → val u < q * val v) := by
    intro q r h1 h2
    obtain ⟨_, hk, _, _⟩ := unhide F2
    obtain ⟨eU, eV, hru, hrv, hUV, g1, g2, g3, g4, htop⟩ := unhide F
    rw [hk] at h1
    exact guess_dec eU eV hru hUV h1 h2
  have hend : Hid (∀ q r : Nat, q * dg v k + r = top → val u < (q + 1) * val v → q < 4294967296 → q * dg v m ≤ r * 4294967296 + dg u m → GuessOk (val u) (val v) q) := by
    intro q r h1 h2 h3 h4
    obtain ⟨_, hk, _, _⟩ := unhide F2
    obtain ⟨eU, eV, hru, hrv, hUV, g1, g2, g3, g4, htop⟩ := unhide F
    rw [hk] at h1 hv1
    exact ⟨h3, h2, guess_end eU eV hrv (by omega) h1 h3 h4⟩
  have hbrk : Hid (∀ q r : Nat, q * dg v k + r = top → val u < (q + 1) * val v → 4294967296 ≤ r → GuessOk (val u) (val v) q) := by
    intro q r h1 h2 h3
    have h4 : q < 4294967296 := by
      obtain ⟨_, hk, _, _⟩ := unhide F2
      obtain ⟨eU, eV, hru, hrv, hUV, g1, g2, g3, g4, htop⟩ := unhide F
      rw [hk] at h1
      rcases Nat.lt_or_ge q 4294967296 with h | h
      · exact h
      · have : 4294967296 * dg v (m + 1) ≤ q * dg v (m + 1) := Nat.mul_le_mul_right _ h
        omega
    refine (unhide hend) q r h1 h2 h4 ?_
    have := mul_le32 h4 y2
    omega
  go_loopw [7, 8] (fun sq sr wr => ∃ q r : Nat, sq = .int .u64 q ∧ sr = .int .u64 r ∧ q ≤ 4294967297 ∧ r < 4294967296 ∧ Hid (q * dg v k + r = top ∧ val u < (q + 1) * val v) ∧ Qd w wr) (fun sq _ _ => (intOf sq).toNat)
  case atStart =>
    obtain ⟨_, hk, hq0, hr0⟩ := unhide F2
    obtain ⟨eU, eV, hru, hrv, hUV, g1, g2, g3, g4, htop⟩ := unhide F
    exact ⟨q0, r0, rfl, rfl, hq0b, by omega, (by rw [hq0, hr0, hk]; exact ⟨g2, g1⟩), (Qd.of _ _).drewN _⟩
  case round =>
    obtain ⟨q, r, rfl, rfl, hq, hr, hI, ⟨z, rfl⟩⟩ := hrel
    by_cases hbig : 4294967296 ≤ q
    · have hdown := (unhide hdec) q r (unhide hI).1 (Or.inl hbig)
      have hq1 : 1 ≤ q := by omega
      have hnew : Hid ((q - 1) * dg v k + (r + dg v k) = top ∧ val u < (q - 1 + 1) * val v) := guess_new hq1 (unhide hI).1 hdown
      have Hdown := hide hdown
      clear hdown
      have g0 : ((q : Int) / 4294967296 != 0) = true := by rw [bne_iff_ne]; omega
      by_cases hbr : r + dg v k < 4294967296
      · have g1 : (((r : Int) + (dg v k : Int)) / 4294967296 != 0) = false := by simp; omega
        go_wp2_with fail
        go_quiet (fail)
        go_wp2_with fail
        go_roundw
        case rel => exact ⟨q - 1, r + dg v k, congrArg (Value.int .u64) (by omega), congrArg (Value.int .u64) (by omega), by omega, hbr, hnew, Qd.of _ _⟩
        case measure => simp [intOf]; omega
      · have g1 : (((r : Int) + (dg v k : Int)) / 4294967296 != 0) = true := by rw [bne_iff_ne]; omega
        go_wp2_with fail
        go_quiet (fail)
        go_wp2_with fail
        go_ret
        exact ⟨q - 1, congrArg (fun x => Ending.returned (Value.int .u64 x)) (by omega), (unhide hbrk) _ _ (unhide hnew).1 (unhide hnew).2 (by omega), Qd.of _ _⟩
    · have g0 : ((q : Int) / 4294967296 != 0) = false := by simp; omega
      obtain ⟨X, hX⟩ : ∃ X, X = q * dg v m := ⟨_, rfl⟩
      obtain ⟨Y, hY⟩ : ∃ Y, Y = r * 4294967296 + dg u m := ⟨_, rfl⟩
      have hXb := mul_le32 (show q < 4294967296 by omega) y2
      have h1 : IntKind.u64.wrap ((q : Int) * (dg v m : Int)) = (X : Int) := by
        rw [hX, Int.natCast_mul, u64_wrap, ← Int.natCast_mul]; omega
      have h2 : IntKind.u64.wrap ((r : Int) * 4294967296) = (r : Int) * 4294967296 := by rw [u64_wrap]; omega
      have h3 : bits .or .u64 ((r : Int) * 4294967296) (dg u m : Int) = (Y : Int) := by rw [hY]; exact or_join hr x2
      have h4 : IntKind.u64.wrap (dg v m : Int) = (dg v m : Int) := by rw [u64_wrap]; omega
      have h5 : IntKind.u64.wrap (dg u m : Int) = (dg u m : Int) := by rw [u64_wrap]; omega
      have HX := hide (And.intro hX hY)
      by_cases hcmp : Y < X
      · have hdown := (unhide hdec) q r (unhide hI).1 (Or.inr (by rw [← hX, ← hY]; exact hcmp))
        have hq1 : 1 ≤ q := by
          rcases Nat.eq_zero_or_pos q with e | e
          · subst e; omega
          · exact e
        clear hX hY hXb
        have hnew : Hid ((q - 1) * dg v k + (r + dg v k) = top ∧ val u < (q - 1 + 1) * val v) := guess_new hq1 (unhide hI).1 hdown
        have Hdown := hide hdown
        clear hdown
        by_cases hbr : r + dg v k < 4294967296
        · have g1 : (((r : Int) + (dg v k : Int)) / 4294967296 != 0) = false := by simp; omega
          go_wp2_with fail
          go_quiet (fail)
          go_wp2_with fail
          go_roundw
          case rel => exact ⟨q - 1, r + dg v k, congrArg (Value.int .u64) (by omega), congrArg (Value.int .u64) (by omega), by omega, hbr, hnew, Qd.of _ _⟩
          case measure => simp [intOf]; omega
        · have g1 : (((r : Int) + (dg v k : Int)) / 4294967296 != 0) = true := by rw [bne_iff_ne]; omega
          go_wp2_with fail
          go_quiet (fail)
          go_wp2_with fail
          go_ret
          exact ⟨q - 1, congrArg (fun x => Ending.returned (Value.int .u64 x)) (by omega), (unhide hbrk) _ _ (unhide hnew).1 (unhide hnew).2 (by omega), Qd.of _ _⟩
      · have hfin : Hid (GuessOk (val u) (val v) q) := (unhide hend) q r (unhide hI).1 (unhide hI).2 (by omega) (by rw [← hX, ← hY]; omega)
        clear hX hY hXb
        go_wp2_with fail
        go_quiet (fail)
        go_wp2_with fail
        go_ret
        exact ⟨q, rfl, unhide hfin, (Qd.of _ _).drewN _⟩

end Go.Proofs.Ytlpnjoenkohadaa
