/-
  Walks over natural: BitLen, GCD, Sqrt.
-/
import Derived.Test.YtlpnjoenkohadaaDoorWi
import Derived.Test.YtlpnjoenkohadaaDoorNumD
import Derived.Deep.LoopGhost
namespace Go.Proofs.YtlpnjoenkohadaaDoor
set_option linter.unusedVariables false
set_option linter.unusedSimpArgs false
open Go.RowKit

theorem len32_c (x : Nat) (h : x < 4294967296) (w : World) :
    Calls Tryd.prog 89 #[.int .u32 x] w fun e w' => e = .returned (.int .i64 ((Lib.bitLen x : Nat) : Int)) ∧ w = w' :=
  (Tryd.bits_Len32 x w (by omega) (by omega)).mono fun _ _ ⟨h1, h2⟩ => by
    rw [Int.toNat_natCast] at h1
    exact ⟨h1, h2.symm⟩

set_option maxRecDepth 100000 in
set_option maxHeartbeats 1000000 in
theorem bitLen_c {A : Option Addr} {n c : Nat} {a : List Nat} (w : World) (ha : In w A n c a) (hn : n ≤ 274877906944) :
    Calls Tryd.prog 68 #[.slice A n c] w fun e w' => e = .returned (.int .i64 (bitsN (val a) : Nat)) ∧ w = w' := by
  have hta := tlen_le a n
  have Ta := ha.trim
  have na := trim_norm ha.dig
  have va : Hid (val (trim a) = val a) := val_trim a
  obtain ⟨p, hp⟩ : ∃ p, p = tlen a n := ⟨_, rfl⟩
  rw [← hp] at Ta hta
  have HP := hide hp
  clear hp
  have Ha := hide ha
  clear ha
  by_cases h0 : p = 0
  · subst h0
    go_enter Tryd.func68, Tryd.ntmps68
    go_wp2_with fail
    refine (short_c w (unhide Ha)).mono ?_
    rintro e w' ⟨rfl, rfl⟩
    rw [← unhide HP]
    go_wp2_with fail
    go_ret
    refine ⟨?_, rfl⟩
    have : val a = 0 := by rw [← unhide va, List.length_eq_zero_iff.1 Ta.len]; rfl
    rw [this]; rfl
  · obtain ⟨t, ht⟩ : ∃ t, p = t + 1 := ⟨p - 1, by omega⟩
    have hx := Ta.dig t
    obtain ⟨ad, hA, hc⟩ := Ta.at_ (k := t) (by omega)
    have hnz : dg (trim a) t ≠ 0 := by
      rcases na.2 with h | h
      · have := Ta.len; rw [h] at this; simp only [List.length_nil] at this; omega
      · rw [Ta.len, ht] at h; exact h
    have htb := top_bits Ta.dig (by rw [Ta.len]; exact ht) hnz
    rw [unhide va] at htb
    have hbl := bitLen_le32 hx
    have l0 : ((p : Int) == 0) = false := by simp; omega
    have l1 : (p : Int) - 1 = (t : Int) := by omega
    have l2 : t < p := by omega
    have HTB := hide htb
    clear htb ht hnz h0
    subst hA
    go_enter Tryd.func68, Tryd.ntmps68
    go_wp2_with fail
    refine (short_c w (unhide Ha)).mono ?_
    rintro e w' ⟨rfl, rfl⟩
    rw [← unhide HP]
    go_wp2_with fail
    refine (len32_c _ hx w).mono ?_
    rintro e w' ⟨rfl, rfl⟩
    go_wp2_with fail
    go_ret
    refine ⟨?_, rfl⟩
    rw [unhide HTB]
    exact congrArg (fun x => Ending.returned (Value.int .i64 x)) (by omega)

/-- Bounds on the length of a normalized list by its number. -/
theorem Norm.len_lt {l : List Nat} (h : Norm l) {k : Nat} (hv : val l < 2 ^ (32 * k)) : l.length ≤ k := h.length_le (by rw [pw_two]; exact hv)


end Go.Proofs.YtlpnjoenkohadaaDoor
