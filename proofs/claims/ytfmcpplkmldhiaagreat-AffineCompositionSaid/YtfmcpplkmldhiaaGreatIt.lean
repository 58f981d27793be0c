/-
  Integers: ToInt.
-/
import Derived.Test.YtfmcpplkmldhiaaGreatJe
import Derived.IntWalk
namespace Go.Proofs.YtfmcpplkmldhiaaGreat
set_option linter.unusedVariables false
set_option linter.unusedSimpArgs false
open Go.RowKit
attribute [local go_sem ↓] Go.wp_at_zero Go.wp_at_succ

def fitB (x : Int) : Bool := decide (-9223372036854775808 ≤ x ∧ x ≤ 9223372036854775807)
def toV (x : Int) : Int := if fitB x then x else 0
theorem fit_true {x : Int} (h1 : -9223372036854775808 ≤ x) (h2 : x ≤ 9223372036854775807) : fitB x = true ∧ toV x = x := by
  have h : fitB x = true := decide_eq_true ⟨h1, h2⟩
  exact ⟨h, by rw [toV, h]; rfl⟩
theorem fit_false {x : Int} (h : ¬ (-9223372036854775808 ≤ x ∧ x ≤ 9223372036854775807)) : fitB x = false ∧ toV x = 0 := by
  have h : fitB x = false := decide_eq_false h
  exact ⟨h, by rw [toV, h]; rfl⟩

set_option maxRecDepth 100000 in
set_option maxHeartbeats 4000000 in
theorem itoInt_c {A : Option Addr} {n c : Nat} {a : List Nat} {s : Bool} {x : Int} (w : World) (ha : In w A n c a) (hn : n ≤ 274877906944) (hx : zi s (val a) = x) :
    Calls Tryz.prog 73 #[.agg #[.bool s, .slice A n c]] w (RetV w (.tuple #[.int .i64 (toV x), .bool (fitB x)])) := by
  have HX := hide hx
  clear hx
  go_enter Tryz.func73, Tryz.ntmps73
  go_wp2_with fail
  obtain ⟨w0, hw0⟩ : ∃ w0, w0 = (w.alloc (.cells #[.bool s, .slice A n c] 24)) := ⟨_, rfl⟩
  have kw00 : Blk w0 (w.heap.size) 24 #[.bool s, .slice A n c] := by rw [hw0]; exact allocs_blk [(#[.bool s, .slice A n c], 24)] w 0 _ _ rfl
  have fr : Fr w [] w0 := (⟨by rw [hw0]; exact allocs_below [(#[.bool s, .slice A n c], 24)] w, fun _ h => by cases h⟩ : Fr w [] w0)
  have sw0 : w0.heap.size = w.heap.size + 1 := by rw [hw0]; exact allocs_size [(#[.bool s, .slice A n c], 24)] w
  rw [← hw0]
  clear hw0
  have a0 := kw00.cell 0
  have a1 := kw00.cell 1
  clear kw00
  refine (normalize_c _ (fr.in_ ha) (by omega)).mono ?_
  rintro e w1 ⟨A1, p, c1, rfl, o1, hw⟩
  have N1 := trim_norm ha.dig
  have v1 := val_trim a
  have hl := o1.len
  have fr1 := fr.below hw
  replace a0 := keepc hw a0
  replace a1 := keepc hw a1
  have i1 := o1.toIn
  have hpI := i1.lenI
  obtain ⟨l, hlt⟩ : ∃ l, l = trim a := ⟨_, rfl⟩
  rw [← hlt] at N1 v1 hl i1
  have V1 := hide v1
  have HL := hide hl
  clear hlt v1 hl o1 hw
  by_cases hp : p ≤ 2
  · have hv2 : val l < 18446744073709551616 := by
      have := val_lt_of N1.dig (Nat.le_trans (Nat.le_of_eq (unhide HL)) hp)
      rwa [show pw 2 = 18446744073709551616 by rw [pw_two]] at this
    have hpi : (p : Int) ≤ 2 := by omega
    have hpf : ¬ (2 : Int) < (p : Int) := by omega
    have HP := hide hp
    have HV2 := hide hv2
    clear hp hv2
    go_wp2_with fail
    go_loop [5, 6] (fun sn si => ∃ (k v : Nat) (z : Int), k ≤ p ∧ z + 1 = k ∧ si = .int .i64 z ∧ sn = .int .u64 v ∧ Hid (v = val (l.drop k)) ∧ v < 18446744073709551616) (fun _ si => (intOf si + 1).toNat)
    case atStart => exact ⟨p, 0, (p : Int) - 1, Nat.le_refl _, by omega, rfl, rfl, (by show _ = _; rw [val_drop_all (by rw [unhide HL]; exact Nat.le_refl _)]), by omega⟩
    case round =>
      obtain ⟨k, v, z, hk, hz, rfl, rfl, hI, hv⟩ := hrel
      by_cases hk0 : k = 0
      · subst hk0
        obtain rfl : z = -1 := by omega
        clear hz
        have hvx : v = x.natAbs := by
          have h := unhide hI
          rw [List.drop_zero, unhide V1] at h
          rw [h, ← unhide HX, zi_abs]
        have hxs : x = zi s v := by
          have h := unhide hI
          rw [List.drop_zero, unhide V1] at h
          rw [h]; exact (unhide HX).symm
        have HXS := hide hxs
        clear hvx hxs
        rcases Nat.lt_trichotomy v 9223372036854775808 with h | h | h
        · have t1 : ¬ (9223372036854775808 : Int) < (v : Int) := by omega
          have t2 : (((v : Nat) : Int) == 9223372036854775808) = false := by simp; omega
          cases s
          · have K : Hid (fitB x = true ∧ toV x = (v : Int)) := by
              have e : x = (v : Int) := unhide HXS
              rw [← e]
              exact fit_true (by omega) (by omega)
            have e1 : IntKind.i64.wrap (v : Int) = (v : Int) := IntWalk.i64_in _ (by omega)
            go_wp2_with fail
            go_ret2
            rw [(unhide K).1, (unhide K).2]
            exact ⟨rfl, fr1.bel⟩
          · have K : Hid (fitB x = true ∧ toV x = -(v : Int)) := by
              have e : x = -(v : Int) := unhide HXS
              rw [← e]
              exact fit_true (by omega) (by omega)
            have e1 : IntKind.i64.wrap (IntKind.u64.wrap (-(v : Int))) = -(v : Int) := by rw [u64_wrap, IntKind.wrap_i64]; omega
            go_wp2_with fail
            go_ret2
            rw [(unhide K).1, (unhide K).2]
            exact ⟨rfl, fr1.bel⟩
        · have t1 : ¬ (9223372036854775808 : Int) < (v : Int) := by omega
          have t2 : (((v : Nat) : Int) == 9223372036854775808) = true := by simp; omega
          cases s
          · have K : Hid (fitB x = false ∧ toV x = 0) := by
              have e : x = (v : Int) := unhide HXS
              exact fit_false (by omega)
            clear h
            go_wp2_with fail
            go_ret2
            rw [(unhide K).1, (unhide K).2]
            exact ⟨rfl, fr1.bel⟩
          · have K : Hid (fitB x = true ∧ toV x = -(v : Int)) := by
              have e : x = -(v : Int) := unhide HXS
              rw [← e]
              exact fit_true (by omega) (by omega)
            have e1 : IntKind.i64.wrap (IntKind.u64.wrap (-(v : Int))) = -(v : Int) := by rw [u64_wrap, IntKind.wrap_i64]; omega
            clear h
            go_wp2_with fail
            go_ret2
            rw [(unhide K).1, (unhide K).2]
            exact ⟨rfl, fr1.bel⟩
        · have t1 : (9223372036854775808 : Int) < (v : Int) := by omega
          have K : Hid (fitB x = false ∧ toV x = 0) := by
            have e := unhide HXS
            have h5 := zi_abs s v
            rw [← e] at h5
            exact fit_false (by omega)
          go_wp2_with fail
          go_ret2
          rw [(unhide K).1, (unhide K).2]
          exact ⟨rfl, fr1.bel⟩
      · obtain ⟨j, rfl⟩ : ∃ j, k = j + 1 := ⟨k - 1, by omega⟩
        obtain rfl : z = (j : Int) := by omega
        clear hz hk0
        obtain ⟨ad, hA, hca⟩ := i1.at_ (k := j) (by omega)
        have hd := i1.dig j
        subst hA
        have hvs : v < 4294967296 := by
          have h1 : val (l.drop (j + 1)) < pw 1 := val_lt_of (N1.dig.drop _) (by rw [List.length_drop, unhide HL]; have := unhide HP; omega)
          rw [← unhide hI, pw_two] at h1
          exact h1
        have hor := or_join (x := v) (y := dg l j) hvs hd
        have hjp : (j : Int) < (p : Int) := by omega
        go_wp2_with fail
        go_round
        case rel => exact ⟨j, v * 4294967296 + dg l j, (j : Int) - 1, by omega, by omega, rfl, rfl, (by show _ = _; rw [val_drop_succ (by rw [unhide HL]; omega), ← unhide hI]; omega), by omega⟩
        case measure => simp [intOf]
  · have hpf : (2 : Int) < (p : Int) := by omega
    have hpf' : ¬ (p : Int) ≤ 2 := by omega
    have hbig : Hid (fitB x = false ∧ toV x = 0) := fit_false (by
      have h1 := N1.pos (by rintro rfl; have h := unhide HL; simp at h; omega)
      have h2 := pw_le (show 2 ≤ l.length - 1 by rw [unhide HL]; omega)
      have h3 : pw 2 = 18446744073709551616 := by rw [pw_two]
      have h4 := zi_abs s (val a)
      rw [unhide HX] at h4
      have h5 := unhide V1
      omega)
    have hp0 : (0 : Int) ≤ (p : Int) - 1 := by omega
    go_wp2_with fail
    go_loop [5, 6] (fun sn si => sn = .int .u64 0 ∧ si = .int .i64 ((p : Int) - 1)) (fun _ _ => 0)
    case atStart => exact ⟨rfl, rfl⟩
    case round =>
      obtain ⟨rfl, rfl⟩ := hrel
      go_wp2_with fail
      go_ret2
      rw [(unhide hbig).1, (unhide hbig).2]
      exact ⟨rfl, fr1.bel⟩

end Go.Proofs.YtfmcpplkmldhiaaGreat
