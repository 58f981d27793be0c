/-
  Walks: the law of shifts.
-/
import Derived.Test.YtklohficlfnjfaaLb
import Derived.Test.YtklohficlfnjfaaRdd
namespace Go.Proofs.Ytklohficlfnjfaa
set_option linter.unusedVariables false
set_option linter.unusedSimpArgs false
open Go.RowKit

theorem two_le_pw {m k : Nat} (h : m ≤ 32 * k) : 2 ^ m ≤ pw k := by
  rw [pw_two]; exact Nat.pow_le_pow_right (by omega) h
theorem shiftN_lt {v K : Nat} {z : Int} (h : v < pw K) : shiftN v z < pw (K + 128) := by
  unfold shiftN
  split
  · have h1 : 2 ^ (min z.toNat 4096) ≤ pw 128 := two_le_pw (by omega)
    rw [pw_add]
    exact Nat.lt_of_lt_of_le (Nat.mul_lt_mul_of_pos_right h (two_pos _)) (Nat.mul_le_mul_left _ h1)
  · exact Nat.lt_of_le_of_lt (Nat.div_le_self _ _) (Nat.lt_of_lt_of_le h (pw_le (by omega)))
theorem shiftN_up {v t : Nat} (h : t ≤ 4096) : shiftN v (t : Int) = v * 2 ^ t := by
  unfold shiftN
  rw [if_pos (by omega), Int.toNat_natCast, Nat.min_eq_left h]

set_option maxRecDepth 100000 in
set_option maxHeartbeats 8000000 in
theorem lawShift {Aa : Option Addr} {na ca : Nat} {la : List Nat} (z y : Int) (h1 : -9223372036854775808 ≤ z) (h2 : z ≤ 9223372036854775807) (hy0 : 0 ≤ y) (hy1 : y ≤ 65535) (w : World) (ia : In w Aa na ca la) :
    Calls Try.prog 3 #[.slice Aa na ca, .int .i64 z, .int .u16 y] w fun e w' => e = .returned (.bool true) ∧ Below w.heap.size w w' := by
  obtain ⟨k, rfl⟩ := Int.eq_ofNat_of_zero_le hy0
  obtain ⟨t, ht0⟩ : ∃ t, t = k % 4097 := ⟨_, rfl⟩
  have e0 : (k : Int) % 4097 = (t : Int) := by omega
  have ht : t ≤ 4096 := by omega
  clear ht0
  have hb := Below.refl w.heap.size w
  have hna := ia.lenI
  by_cases ba : na ≤ 60
  · have ua := val_lt_of ia.dig (Nat.le_trans (Nat.le_of_eq ia.len) ba)
    have t0 : ¬ (60 : Int) < (na : Int) := by omega
    go_enter Try.func3, Try.ntmps3
    go_wp2_with fail
    refine (shift_c (t : Int) _ ia (by omega) (by omega) (by omega)).mono ?_
    rintro e w1 ⟨Au, nu, lu, rfl, Nu, vu, ou, hw⟩
    obtain ⟨cu, hcu⟩ : ∃ cu, cu = nu := ⟨_, rfl⟩
    clear hcu
    have uu : val lu < pw 188 := by rw [vu]; exact shiftN_lt ua
    replace ia := ia.below hw
    replace hb := hb.trans (hw.mono hb.size)
    have iu := ou.toIn
    have bu : nu ≤ 188 := by have := Nu.length_le uu; have := iu.len; omega
    have Vu := hide vu
    clear vu ou hw
    go_wp2_with fail
    refine (shift_c z _ ia (by omega) (by omega) (by omega)).mono ?_
    rintro e w2 ⟨Aq, nq, lq, rfl, Nq, vq, oq, hw⟩
    obtain ⟨cq, hcq⟩ : ∃ cq, cq = nq := ⟨_, rfl⟩
    clear hcq
    have uq : val lq < pw 188 := by rw [vq]; exact shiftN_lt ua
    replace ia := ia.below hw
    replace iu := iu.below hw
    replace hb := hb.trans (hw.mono hb.size)
    have iq := oq.toIn
    have bq : nq ≤ 188 := by have := Nq.length_le uq; have := iq.len; omega
    have Vq := hide vq
    clear vq oq hw
    go_wp2_with fail
    refine (refShift_c z _ ia (by omega) (by omega) (by omega)).mono ?_
    rintro e w3 ⟨Ar, nr, cr, lr, rfl, Nr, vr, or, hw⟩
    have ur : val lr < pw 188 := by rw [vr]; exact shiftN_lt ua
    replace ia := ia.below hw
    replace iu := iu.below hw
    replace iq := iq.below hw
    replace hb := hb.trans (hw.mono hb.size)
    have ir := or.toIn
    have br : nr ≤ 188 := by have := Nr.length_le ur; have := ir.len; omega
    have Vr := hide vr
    clear vr or hw
    go_wp2_with fail
    refine (same_t _ iq ir (Nq.unique Nr (by rw [unhide Vq, unhide Vr]))).mono ?_
    rintro e w4 ⟨rfl, hq⟩
    replace ia := ia.qd hq
    replace iu := iu.qd hq
    replace iq := iq.qd hq
    replace ir := ir.qd hq
    replace hb := hb.trans (hq.below _)
    clear hq
    go_wp2_with fail
    refine (shift_c (-(t : Int)) _ iu (by omega) (by omega) (by omega)).mono ?_
    rintro e w5 ⟨As, ns, ls, rfl, Ns, vs, os, hw⟩
    obtain ⟨cs, hcs⟩ : ∃ cs, cs = ns := ⟨_, rfl⟩
    clear hcs
    have us : val ls < pw 316 := by rw [vs]; exact shiftN_lt uu
    replace ia := ia.below hw
    replace iu := iu.below hw
    replace iq := iq.below hw
    replace ir := ir.below hw
    replace hb := hb.trans (hw.mono hb.size)
    have is := os.toIn
    have bs : ns ≤ 316 := by have := Ns.length_le us; have := is.len; omega
    have Vs := hide vs
    clear vs os hw
    go_wp2_with fail
    refine (normalize_c _ ia (by omega)).mono ?_
    rintro e w6 ⟨Ax, nx, cx, rfl, ox, hw⟩
    have Nx := trim_norm ia.dig
    have vx := val_trim la
    obtain ⟨lx, hlx⟩ : ∃ lx, lx = trim la := ⟨_, rfl⟩
    rw [← hlx] at ox Nx vx
    have Lx := hide hlx
    clear hlx
    have ux : val lx < pw 60 := by rw [vx]; exact ua
    replace ia := ia.below hw
    replace iu := iu.below hw
    replace iq := iq.below hw
    replace ir := ir.below hw
    replace is := is.below hw
    replace hb := hb.trans (hw.mono hb.size)
    have ix := ox.toIn
    have bx : nx ≤ 60 := by have := Nx.length_le ux; have := ix.len; omega
    have Vx := hide vx
    clear vx ox hw
    go_wp2_with fail
    refine (same_t _ is ix (Ns.unique Nx (by rw [unhide Vs, unhide Vu, unhide Vx, shiftN_up ht, shiftN_neg, Nat.mul_div_cancel _ (two_pos t)]))).mono ?_
    rintro e w7 ⟨rfl, hq⟩
    replace ia := ia.qd hq
    replace iu := iu.qd hq
    replace iq := iq.qd hq
    replace ir := ir.qd hq
    replace is := is.qd hq
    replace ix := ix.qd hq
    replace hb := hb.trans (hq.below _)
    clear hq
    go_wp2_with fail
    refine (refShift_c (t : Int) _ ia (by omega) (by omega) (by omega)).mono ?_
    rintro e w8 ⟨Ap, np, cp, lp, rfl, Np, vp, op, hw⟩
    have up : val lp < pw 188 := by rw [vp]; exact shiftN_lt ua
    replace ia := ia.below hw
    replace iu := iu.below hw
    replace iq := iq.below hw
    replace ir := ir.below hw
    replace is := is.below hw
    replace ix := ix.below hw
    replace hb := hb.trans (hw.mono hb.size)
    have ip := op.toIn
    have bp : np ≤ 188 := by have := Np.length_le up; have := ip.len; omega
    have Vp := hide vp
    clear vp op hw
    go_wp2_with fail
    refine (same_t _ iu ip (Nu.unique Np (by rw [unhide Vu, unhide Vp]))).mono ?_
    rintro e w9 ⟨rfl, hq⟩
    replace ia := ia.qd hq
    replace iu := iu.qd hq
    replace iq := iq.qd hq
    replace ir := ir.qd hq
    replace is := is.qd hq
    replace ix := ix.qd hq
    replace ip := ip.qd hq
    replace hb := hb.trans (hq.below _)
    clear hq
    go_wp2_with fail
    refine (example_c _).mono ?_
    rintro e w10 ⟨rfl, hw⟩
    replace hb := hb.trans (hw.mono hb.size)
    go_wp2_with fail
    go_ret
    exact ⟨rfl, hb⟩
  · have t0 : (60 : Int) < (na : Int) := by omega
    go_enter Try.func3, Try.ntmps3
    go_wp2_with fail
    refine (example_c w).mono ?_
    rintro e w1 ⟨rfl, hw⟩
    go_wp2_with fail
    go_ret
    exact ⟨rfl, hw⟩

end Go.Proofs.Ytklohficlfnjfaa
