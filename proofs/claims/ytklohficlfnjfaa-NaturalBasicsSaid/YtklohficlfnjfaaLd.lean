/-
  Walks: the law of natural's basic functions.
-/
import Derived.Test.YtklohficlfnjfaaLb
import Derived.Test.YtklohficlfnjfaaRb
namespace Go.Proofs.Ytklohficlfnjfaa
set_option linter.unusedVariables false
set_option linter.unusedSimpArgs false
open Go.RowKit

set_option maxRecDepth 100000 in
set_option maxHeartbeats 8000000 in
theorem lawBasics {Aa Ab : Option Addr} {na ca nb cb : Nat} {la lb : List Nat} (x : Int) (hx0 : 0 ≤ x) (hx : x ≤ 18446744073709551615) (w : World) (ia : In w Aa na ca la) (ib : In w Ab nb cb lb) :
    Calls Try.prog 7 #[.slice Aa na ca, .slice Ab nb cb, .int .u64 x] w fun e w' => e = .returned (.bool true) ∧ Below w.heap.size w w' := by
  obtain ⟨k, rfl⟩ := Int.eq_ofNat_of_zero_le hx0
  clear hx0
  have hk := hx
  have hk2 : k < pw 2 := by rw [pw_two]; omega
  clear hx
  have hb := Below.refl w.heap.size w
  by_cases hs : na ≤ 500 ∧ nb ≤ 500
  · obtain ⟨ba, bb⟩ := hs
    have ua := val_lt_of ia.dig (Nat.le_trans (Nat.le_of_eq ia.len) ba)
    have ub := val_lt_of ib.dig (Nat.le_trans (Nat.le_of_eq ib.len) bb)
    go_enter Try.func7, Try.ntmps7
    go_wp2_with fail
    refine (few_t w ba bb (by omega)).mono ?_
    rintro e w' ⟨rfl, rfl⟩
    go_wp2_with fail
    refine (fromUint64_c k hk _).mono ?_
    rintro e w1 ⟨Aq, nq, cq, lq, rfl, Nq, vq, oq, hw⟩
    have uq : val lq < pw 2 := by rw [vq]; exact hk2
    replace ia := ia.below hw
    replace ib := ib.below hw
    replace hb := hb.trans (hw.mono hb.size)
    have iq := oq.toIn
    have bq : nq ≤ 2 := by have := Nq.length_le uq; have := iq.len; omega
    have Vq := hide vq
    clear vq oq hw
    go_wp2_with fail
    refine (refFromUint64_c k hk _).mono ?_
    rintro e w2 ⟨Ar, nr, cr, lr, rfl, Nr, vr, or, hw⟩
    have ur : val lr < pw 2 := by rw [vr]; exact hk2
    replace ia := ia.below hw
    replace ib := ib.below hw
    replace iq := iq.below hw
    replace hb := hb.trans (hw.mono hb.size)
    have ir := or.toIn
    have br : nr ≤ 2 := by have := Nr.length_le ur; have := ir.len; omega
    have Vr := hide vr
    clear vr or hw
    go_wp2_with fail
    refine (same_t _ iq ir (Nq.unique Nr (by rw [unhide Vq, unhide Vr]))).mono ?_
    rintro e w3 ⟨rfl, hq⟩
    replace ia := ia.qd hq
    replace ib := ib.qd hq
    replace iq := iq.qd hq
    replace ir := ir.qd hq
    replace hb := hb.trans (hq.below _)
    clear hq
    obtain ⟨b0, hb0⟩ : ∃ b0, b0 = decide (Go.Proofs.Ytklohficlfnjfaa.trim la = la) := ⟨_, rfl⟩
    go_wp2_with fail
    refine (isNormalized_c _ ia).mono ?_
    rintro e w' ⟨rfl, rfl⟩
    rw [← hb0]
    go_wp2_with fail
    refine (refIsNormalized_c _ ia).mono ?_
    rintro e w' ⟨rfl, rfl⟩
    rw [← hb0]
    clear hb0
    go_wp2_with fail
    refine (normalize_c _ ia (by omega)).mono ?_
    rintro e w4 ⟨As, ns, cs, rfl, os, hw⟩
    have Ns := trim_norm ia.dig
    have vs := val_trim la
    obtain ⟨ls, hls⟩ : ∃ ls, ls = trim la := ⟨_, rfl⟩
    rw [← hls] at os Ns vs
    have Ls := hide hls
    clear hls
    have us : val ls < pw 500 := by rw [vs]; exact ua
    replace ia := ia.below hw
    replace ib := ib.below hw
    replace iq := iq.below hw
    replace ir := ir.below hw
    replace hb := hb.trans (hw.mono hb.size)
    have is := os.toIn
    have bs : ns ≤ 500 := by have := Ns.length_le us; have := is.len; omega
    have Vs := hide vs
    clear vs os hw
    go_wp2_with fail
    refine (refNormalize_c _ ia (by omega)).mono ?_
    rintro e w5 ⟨At, nt, ct, rfl, ot, hw⟩
    have Nt := trim_norm ia.dig
    have vt := val_trim la
    obtain ⟨lt, hlt⟩ : ∃ lt, lt = trim la := ⟨_, rfl⟩
    rw [← hlt] at ot Nt vt
    have Lt := hide hlt
    clear hlt
    have ut : val lt < pw 500 := by rw [vt]; exact ua
    replace ia := ia.below hw
    replace ib := ib.below hw
    replace iq := iq.below hw
    replace ir := ir.below hw
    replace is := is.below hw
    replace hb := hb.trans (hw.mono hb.size)
    have it := ot.toIn
    have bt : nt ≤ 500 := by have := Nt.length_le ut; have := it.len; omega
    have Vt := hide vt
    clear vt ot hw
    go_wp2_with fail
    refine (same_t _ is it (Ns.unique Nt (by rw [unhide Vs, unhide Vt]))).mono ?_
    rintro e w6 ⟨rfl, hq⟩
    replace ia := ia.qd hq
    replace ib := ib.qd hq
    replace iq := iq.qd hq
    replace ir := ir.qd hq
    replace is := is.qd hq
    replace it := it.qd hq
    replace hb := hb.trans (hq.below _)
    clear hq
    obtain ⟨z0, hz0⟩ : ∃ z0, z0 = cmpN (val la) (val lb) := ⟨_, rfl⟩
    go_wp2_with fail
    refine (cmp_c _ ia ib).mono ?_
    rintro e w7 ⟨rfl, hq⟩
    rw [← hz0]
    replace ia := ia.qd hq
    replace ib := ib.qd hq
    replace iq := iq.qd hq
    replace ir := ir.qd hq
    replace is := is.qd hq
    replace it := it.qd hq
    replace hb := hb.trans (hq.below _)
    clear hq
    go_wp2_with fail
    refine (refCmp_c _ ia ib).mono ?_
    rintro e w8 ⟨rfl, hq⟩
    rw [← hz0]
    clear hz0
    replace ia := ia.qd hq
    replace ib := ib.qd hq
    replace iq := iq.qd hq
    replace ir := ir.qd hq
    replace is := is.qd hq
    replace it := it.qd hq
    replace hb := hb.trans (hq.below _)
    clear hq
    obtain ⟨n0, hn0⟩ : ∃ n0, n0 = bitsN (val la) := ⟨_, rfl⟩
    go_wp2_with fail
    refine (bitLen_c _ ia (by omega)).mono ?_
    rintro e w' ⟨rfl, rfl⟩
    rw [← hn0]
    go_wp2_with fail
    refine (refBitLen_c _ ia (by omega)).mono ?_
    rintro e w9 ⟨rfl, hw⟩
    replace ia := ia.below hw
    replace ib := ib.below hw
    replace iq := iq.below hw
    replace ir := ir.below hw
    replace is := is.below hw
    replace it := it.below hw
    replace hb := hb.trans (hw.mono hb.size)
    rw [← hn0]
    clear hn0 hw
    go_wp2_with fail
    refine (example_c _).mono ?_
    rintro e w10 ⟨rfl, hw⟩
    replace hb := hb.trans (hw.mono hb.size)
    go_wp2_with fail
    go_ret
    exact ⟨rfl, hb⟩
  · have hna := ia.lenI
    have hnb := ib.lenI
    go_enter Try.func7, Try.ntmps7
    go_wp2_with fail
    refine (few_f w hs hna hnb (by omega)).mono ?_
    rintro e w' ⟨rfl, rfl⟩
    go_wp2_with fail
    refine (example_c w).mono ?_
    rintro e w1 ⟨rfl, hw⟩
    go_wp2_with fail
    go_ret
    exact ⟨rfl, hw⟩

end Go.Proofs.Ytklohficlfnjfaa
