/-
  The reference of chapter 2: ToInt.
-/
import Derived.Test.YtfmcpplkmldhiaaIt
namespace Go.Proofs.Ytfmcpplkmldhiaa
set_option linter.unusedVariables false
set_option linter.unusedSimpArgs false
open Go.RowKit
attribute [local go_sem ↓] Go.wp_at_zero Go.wp_at_succ

theorem or_join2 {x y : Nat} (hx : x < 4294967296) (hy : y < 4294967296) : bits .or .u64 (y : Int) ((x : Int) * 4294967296) = ((x * 4294967296 + y : Nat) : Int) := by
  rw [show (x : Int) * 4294967296 = ((x * 4294967296 : Nat) : Int) by omega, u64_or_nat _ _ (by omega) (by omega), Nat.or_comm, nat_join 32 _ _ (by omega) (by omega)]
theorem or_zero1 {y : Nat} (hy : y < 4294967296) : bits .or .u64 0 (y : Int) = (y : Int) := by
  rw [show (0 : Int) = ((0 : Nat) : Int) from rfl, u64_or_nat _ _ (by omega) (by omega), Nat.zero_or]

set_option maxRecDepth 100000 in
set_option maxHeartbeats 4000000 in
theorem rtoInt_c {A : Option Addr} {n c : Nat} {a : List Nat} {s : Bool} {x : Int} (w : World) (ha : In w A n c a) (hn : n ≤ 274877906944) (hx : zi s (val a) = x) :
    Calls Try.prog 47 #[.agg #[.bool s, .slice A n c]] w (RetV w (.tuple #[.int .i64 (toV x), .bool (fitB x)])) := by
  have HX := hide hx
  clear hx
  go_enter Try.func47, Try.ntmps47
  go_wp2_with fail
  obtain ⟨w0, hw0⟩ : ∃ w0, w0 = (w.alloc (.cells #[.bool s, .slice A n c] 24)) := ⟨_, rfl⟩
  have kw00 : Blk w0 (w.heap.size) 24 #[.bool s, .slice A n c] := by rw [hw0]; exact allocs_blk [(#[.bool s, .slice A n c], 24)] w 0 _ _ rfl
  have fr : Fr w [] w0 := (⟨by rw [hw0]; exact allocs_below [(#[.bool s, .slice A n c], 24)] w, fun _ h => by cases h⟩ : Fr w [] w0)
  have sw0 : w0.heap.size = w.heap.size + 1 := by rw [hw0]; exact allocs_size [(#[.bool s, .slice A n c], 24)] w
  rw [← hw0]
  clear hw0
  have a0 := kw00.cell 0
  have a1 := kw00.cell 1
  clear kw00
  refine (rnew_k (k := x) _ (fr.in_ ha) (by omega) (unhide HX)).mono ?_
  rintro e w1 ⟨A1, p, c1, l, rfl, N1, v1, o1, hw⟩
  have fr1 := fr.below hw
  have hnew := below_new w1 (.cells #[.bool (decide (x < 0)), .slice A1 p c1] 24)
  have kG := Blk.new w1 24 #[.bool (decide (x < 0)), .slice A1 p c1]
  have fr2 := fr1.below hnew
  have i1 := o1.toIn.below hnew
  have g0 := kG.cell 0
  have g1 := kG.cell 1
  have hpI := i1.lenI
  have HL := hide i1.len
  have V1 := hide v1
  clear hw kG v1 o1 hnew
  go_wp2_with fail
  obtain ⟨w2, hn2⟩ : ∃ w2, w2 = w1.alloc (.cells #[.bool (decide (x < 0)), .slice A1 p c1] 24) := ⟨_, rfl⟩
  rw [← hn2] at fr2 i1 g0 g1
  rw [← hn2]
  clear hn2
  obtain ⟨G, hg⟩ : ∃ G, G = w1.heap.size := ⟨_, rfl⟩
  rw [← hg] at g0 g1
  rw [← hg]
  clear hg a0 a1
  go_loop [5, 6] (fun sn si => ∃ (k v : Nat), k ≤ p ∧ k ≤ 2 ∧ si = .int .i64 k ∧ sn = .int .u64 v ∧ Hid (v = lo l k) ∧ v < 18446744073709551616) (fun _ si => 2 - (intOf si).toNat)
  case atStart => exact ⟨0, 0, Nat.zero_le _, by omega, rfl, rfl, (by show _ = _; rw [lo_zero]), by omega⟩
  case round =>
    obtain ⟨k, v, hk, hk2, rfl, rfl, hI, hv⟩ := hrel
    by_cases hkp : k < p
    · have hkpi : (k : Int) < (p : Int) := by omega
      obtain ⟨ad, hA, hca⟩ := i1.at_ (k := k) hkp
      have hd := i1.dig k
      subst hA
      by_cases h2 : k = 2
      · have t1 : (1 : Int) < (k : Int) := by omega
        have K : Hid (fitB x = false ∧ toV x = 0) := fit_false (by
          have h1 := N1.pos (by rintro rfl; have h := unhide HL; simp at h; omega)
          have h3 := pw_le (show 2 ≤ l.length - 1 by rw [unhide HL]; omega)
          have h4 : pw 2 = 18446744073709551616 := by rw [pw_two]
          have h5 := unhide V1
          omega)
        clear h2
        go_wp2_with fail
        go_ret2
        rw [(unhide K).1, (unhide K).2]
        exact ⟨rfl, fr2.bel⟩
      · have t1 : ¬ (1 : Int) < (k : Int) := by omega
        by_cases h0 : k = 0
        · subst h0
          have hv0 : v = 0 := by rw [unhide hI, lo_zero]
          subst hv0
          have hor := or_zero1 hd
          simp [Addr.add] at hca
          clear h2
          go_wp2_with fail
          go_round
          case rel => exact ⟨1, dg l 0, by omega, by omega, rfl, rfl, (by show _ = _; rw [lo_succ, lo_zero, pw_zero]; omega), by omega⟩
          case measure => simp [intOf]
        · obtain rfl : k = 1 := by omega
          have hvd : v < 4294967296 := by
            have h := lo_lt i1.dig 1
            rw [← unhide hI, pw_two] at h
            exact h
          have hor := or_join2 hd hvd
          simp [Addr.add] at hca
          clear h2 h0
          go_wp2_with fail
          go_round
          case rel => exact ⟨2, dg l 1 * 4294967296 + v, by omega, by omega, rfl, congrArg (Value.int .u64) (by omega), (by show _ = _; rw [lo_succ, ← unhide hI, show pw 1 = 4294967296 from rfl]; omega), by omega⟩
          case measure => simp [intOf]
    · obtain rfl : k = p := by omega
      have hvx : v = x.natAbs := by rw [unhide hI, lo_all (by rw [unhide HL]; exact Nat.le_refl _), unhide V1]
      have HV := hide hvx
      by_cases hx : x < 0
      · by_cases h : v ≤ 9223372036854775808
        · have t1 : (v : Int) ≤ 9223372036854775808 := by omega
          have K : Hid (fitB x = true ∧ toV x = -(v : Int)) := by
            have e : x = -(v : Int) := by omega
            rw [← e]
            exact fit_true (by omega) (by omega)
          have e1 : IntKind.i64.wrap (IntKind.u64.wrap (0 - (v : Int))) = -(v : Int) := by rw [u64_wrap, IntKind.wrap_i64]; omega
          have e2 : IntKind.i64.wrap (IntKind.u64.wrap (-(v : Int))) = -(v : Int) := by rw [u64_wrap, IntKind.wrap_i64]; omega
          clear hvx h
          go_wp2_with fail
          go_ret2
          rw [(unhide K).1, (unhide K).2]
          exact ⟨rfl, fr2.bel⟩
        · have t1 : ¬ (v : Int) ≤ 9223372036854775808 := by omega
          have K : Hid (fitB x = false ∧ toV x = 0) := fit_false (by omega)
          clear hvx h
          go_wp2_with fail
          go_ret2
          rw [(unhide K).1, (unhide K).2]
          exact ⟨rfl, fr2.bel⟩
      · by_cases h : v < 9223372036854775808
        · have t1 : (v : Int) < 9223372036854775808 := by omega
          have K : Hid (fitB x = true ∧ toV x = (v : Int)) := by
            have e : x = (v : Int) := by omega
            rw [← e]
            exact fit_true (by omega) (by omega)
          have e1 : IntKind.i64.wrap (v : Int) = (v : Int) := IntWalk.i64_in _ (by omega)
          clear hvx h
          go_wp2_with fail
          go_ret2
          rw [(unhide K).1, (unhide K).2]
          exact ⟨rfl, fr2.bel⟩
        · have t1 : ¬ (v : Int) < 9223372036854775808 := by omega
          have K : Hid (fitB x = false ∧ toV x = 0) := fit_false (by omega)
          clear hvx h
          go_wp2_with fail
          go_ret2
          rw [(unhide K).1, (unhide K).2]
          exact ⟨rfl, fr2.bel⟩

end Go.Proofs.Ytfmcpplkmldhiaa
