/-
  Walks: the law of writing and reading a natural number.
-/
import Derived.Test.YtklohficlfnjfaaLb
namespace Go.Proofs.Ytklohficlfnjfaa
set_option linter.unusedVariables false
set_option linter.unusedSimpArgs false
open Go.RowKit

theorem pw_le_ten (k : Nat) : pw k ≤ 10 ^ (10 * k) := by
  rw [pw_two, Nat.pow_mul, Nat.pow_mul]
  exact Nat.pow_le_pow_left (by omega) k
theorem ten_le_pw (k : Nat) : 10 ^ (8 * k) ≤ pw k := by
  rw [pw_two, Nat.pow_mul, Nat.pow_mul]
  exact Nat.pow_le_pow_left (by omega) k
theorem decS_length_le {n k : Nat} (hk : 1 ≤ k) (h : n < 10 ^ k) : (decS n).length ≤ k := by
  unfold decS
  split
  · exact hk
  · rw [List.length_reverse]; exact decR_length h
theorem dval_lt {l : List UInt8} (h : IsD l) : dval l < 10 ^ l.length := by
  induction l with
  | nil => exact Nat.one_pos
  | cons b t ih =>
    have h1 := ih (fun x hx => h x (List.mem_cons_of_mem _ hx))
    have h2 := h b (List.mem_cons_self ..)
    rw [show dval (b :: t) = (b.toNat - 48) + 10 * dval t from rfl, List.length_cons, Nat.pow_succ]
    omega
theorem decS_len {n k : Nat} (hk : 1 ≤ k) (h : n < pw k) : (decS n).length ≤ 10 * k :=
  decS_length_le (by omega) (Nat.lt_of_lt_of_le h (pw_le_ten k))
theorem rdv_lt {l : List UInt8} {K : Nat} (h : IsD l) (hl : l.length ≤ K) : rdv l < 10 ^ K := by
  have h1 : dval l.reverse < 10 ^ l.reverse.length := dval_lt (fun b hb => h b (List.mem_reverse.1 hb))
  rw [List.length_reverse] at h1
  exact Nat.lt_of_lt_of_le h1 (Nat.pow_le_pow_right (by omega) hl)
theorem rdv_pw {l : List UInt8} {k : Nat} (h : IsD l) (hl : l.length ≤ 8 * k) : rdv l < pw k := Nat.lt_of_lt_of_le (rdv_lt h hl) (ten_le_pw k)
theorem strOf_list (s : ByteArray) : strOf s.data.toList = .string s := by
  unfold strOf; rfl

set_option maxRecDepth 100000 in
set_option maxHeartbeats 8000000 in
theorem lawRoundTrip {A : Option Addr} {n c : Nat} {l : List Nat} (s : ByteArray) (hs : s.size ≤ 9223372036854775807) (w : World) (ia : In w A n c l) :
    Calls Try.prog 6 #[.slice A n c, .string s] w fun e w' => e = .returned (.bool true) ∧ Below w.heap.size w w' := by
  have hb := Below.refl w.heap.size w
  have hn := ia.lenI
  by_cases ba : n ≤ 100
  · by_cases bs : s.size ≤ 1100
    · have t1 : ¬ (100 : Int) < (n : Int) := by omega
      have t2 : ¬ (1100 : Int) < (s.size : Int) := by omega
      have hd : (decS (val l)).length ≤ 1000 := by
        have := decS_len (k := 100) (by omega) (val_lt_of ia.dig (Nat.le_trans (Nat.le_of_eq ia.len) ba))
        omega
      obtain ⟨e1, e2⟩ := parse_decS hd
      go_enter Try.func6, Try.ntmps6
      go_wp2_with fail
      refine (format_c _ ia (by omega)).mono ?_
      rintro e w1 ⟨rfl, hw⟩
      replace ia := ia.below hw
      replace hb := hb.trans (hw.mono hb.size)
      clear hw
      unfold strOf
      go_wp2_with fail
      refine (parse_c _ (by simp [ByteArray.size]; omega) _).mono ?_
      rintro e w2 ⟨Am, nm, cm, dm, rfl, Nm, vm, om, hw⟩
      simp only [e1, e2] at vm ⊢
      clear e1 e2
      replace ia := ia.below hw
      replace hb := hb.trans (hw.mono hb.size)
      have im := om.toIn
      have Vm := hide vm
      clear vm om hw
      go_wp2_with fail
      refine (normalize_c _ ia (by omega)).mono ?_
      rintro e w3 ⟨Ax, nx, cx, rfl, ox, hw⟩
      replace ia := ia.below hw
      replace im := im.below hw
      replace hb := hb.trans (hw.mono hb.size)
      have ix := ox.toIn
      have hx : dm = trim l := trim_of_norm Nm ia.dig (unhide Vm)
      have HX := hide hx
      clear hx ox hw
      go_wp2_with fail
      refine (same_t _ im ix (unhide HX)).mono ?_
      rintro e w4 ⟨rfl, hq⟩
      replace ia := ia.qd hq
      replace hb := hb.trans (hq.below _)
      clear hq
      go_wp2_with fail
      refine (parse_c s hs _).mono ?_
      rintro e w5 ⟨Ay, ny, cy, dy, rfl, Ny, vy, oy, hw⟩
      replace hb := hb.trans (hw.mono hb.size)
      have iy := oy.toIn
      clear oy hw
      by_cases hE : parseE s.data.toList = 0
      · obtain ⟨h1, h2, h3, h4⟩ := decS_parse hE
        rw [← vy] at h1
        have H1 := hide h1
        have hy : val dy < pw 125 := by
          rw [vy]; unfold parseV; rw [if_pos hE]
          exact rdv_pw h2 (by omega)
        have by_ : ny ≤ 125 := by have := Ny.length_le hy; have := iy.len; omega
        clear h1 h2 h3 h4 vy
        rw [hE]
        clear hE
        go_wp2_with fail
        refine (isNormalized_c _ iy).mono ?_
        rintro e w' ⟨rfl, rfl⟩
        rw [Ny.isNorm]
        go_wp2_with fail
        refine (format_c _ iy (by omega)).mono ?_
        rintro e w6 ⟨rfl, hw⟩
        replace hb := hb.trans (hw.mono hb.size)
        rw [unhide H1, strOf_list]
        go_wp2_with fail
        refine (example_c _).mono ?_
        rintro e w7 ⟨rfl, hw⟩
        replace hb := hb.trans (hw.mono hb.size)
        go_wp2_with fail
        go_ret
        exact ⟨rfl, hb⟩
      · have hy0 : ny = 0 := by
          have h1 := Ny.zero (by rw [vy]; unfold parseV; rw [if_neg hE])
          rw [← iy.len, h1]; rfl
        subst hy0
        have t3 : (parseE s.data.toList != 0) = true := by rw [bne_iff_ne]; exact hE
        obtain ⟨pe, hpe⟩ : ∃ pe, pe = parseE s.data.toList := ⟨_, rfl⟩
        rw [← hpe] at t3 ⊢
        clear hpe vy hE
        go_wp2_with fail
        refine (example_c _).mono ?_
        rintro e w7 ⟨rfl, hw⟩
        replace hb := hb.trans (hw.mono hb.size)
        go_wp2_with fail
        go_ret
        exact ⟨rfl, hb⟩
    · have t1 : ¬ (100 : Int) < (n : Int) := by omega
      have t2 : (1100 : Int) < (s.size : Int) := by omega
      go_enter Try.func6, Try.ntmps6
      go_wp2_with fail
      refine (example_c w).mono ?_
      rintro e w1 ⟨rfl, hw⟩
      go_wp2_with fail
      go_ret
      exact ⟨rfl, hw⟩
  · have t1 : (100 : Int) < (n : Int) := by omega
    go_enter Try.func6, Try.ntmps6
    go_wp2_with fail
    refine (example_c w).mono ?_
    rintro e w1 ⟨rfl, hw⟩
    go_wp2_with fail
    go_ret
    exact ⟨rfl, hw⟩
end Go.Proofs.Ytklohficlfnjfaa
