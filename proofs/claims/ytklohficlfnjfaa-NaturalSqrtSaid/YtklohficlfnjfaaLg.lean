/-
  Walks: the law of the square root.
-/
import Derived.Test.YtklohficlfnjfaaLb
import Derived.Test.YtklohficlfnjfaaRe
namespace Go.Proofs.Ytklohficlfnjfaa
set_option linter.unusedVariables false
set_option linter.unusedSimpArgs false
open Go.RowKit

set_option maxRecDepth 100000 in
set_option maxHeartbeats 8000000 in
theorem lawSqrt {Aa : Option Addr} {na ca : Nat} {la : List Nat} (w : World) (ia : In w Aa na ca la) :
    Calls Try.prog 11 #[.slice Aa na ca] w fun e w' => e = .returned (.bool true) ∧ Below w.heap.size w w' := by
  have hb := Below.refl w.heap.size w
  have hna := ia.lenI
  by_cases ba : na ≤ 12
  · have ua := val_lt_of ia.dig (Nat.le_trans (Nat.le_of_eq ia.len) ba)
    have t0 : ¬ (12 : Int) < (na : Int) := by omega
    go_enter Try.func11, Try.ntmps11
    go_wp2_with fail
    refine (sqrt_c _ ia (by omega)).mono ?_
    rintro e w1 ⟨sa, ha1, Ar, nr, cr, lr, rfl, Nr, vr, or, hw⟩
    have ur : val lr < pw 12 := by rw [vr]; exact Nat.lt_of_le_of_lt (Nat.le_trans (le_sqr _) ha1.1) ua
    replace ia := ia.below hw
    replace hb := hb.trans (hw.mono hb.size)
    have ir := or.toIn
    have br : nr ≤ 12 := by have := Nr.length_le ur; have := ir.len; omega
    have Vr := hide vr
    clear vr or hw
    have Hha1 := hide ha1
    clear ha1
    go_wp2_with fail
    have il := in_lit w1 [1] 1 #[.int .u32 1] rfl (Dig.one (by omega)) rfl (by omega)
    have hl := below_lit w1 (.cells #[.int .u32 1] 44)
    replace ia := ia.below hl
    replace ir := ir.below hl
    replace hb := hb.trans (hl.mono hb.size)
    clear hl
    refine (add_c _ ir il (by omega) (by omega)).mono ?_
    rintro e w2 ⟨Ax, nx, cx, lx, rfl, Nx, vx, ox, hw⟩
    rw [val_one] at vx
    have ux : val lx < pw 13 := by rw [vx, show pw 13 = pw 12 * 4294967296 from pw_succ 12]; have := pw_pos 12; omega
    clear il
    replace ia := ia.below hw
    replace ir := ir.below hw
    replace hb := hb.trans (hw.mono hb.size)
    have ix := ox.toIn
    have bx : nx ≤ 13 := by have := Nx.length_le ux; have := ix.len; omega
    have Vx := hide vx
    clear vx ox hw
    go_wp2_with fail
    refine (isNormalized_c _ ir).mono ?_
    rintro e w' ⟨rfl, rfl⟩
    rw [Nr.isNorm]
    go_wp2_with fail
    refine (mul_c _ ir ir (by omega) (by omega)).mono ?_
    rintro e w3 ⟨Aq, nq, cq, lq, rfl, Nq, vq, oq, hw⟩
    have uq : val lq < pw 24 := by rw [vq]; exact pw_mul_lt ur ur (by omega)
    replace ia := ia.below hw
    replace ir := ir.below hw
    replace ix := ix.below hw
    replace hb := hb.trans (hw.mono hb.size)
    have iq := oq.toIn
    have bq : nq ≤ 24 := by have := Nq.length_le uq; have := iq.len; omega
    have Vq := hide vq
    clear vq oq hw
    obtain ⟨y0, hy0, hy1⟩ : ∃ y, y = cmpN (val lq) (val la) ∧ y ≤ 0 := ⟨_, rfl, cmpN_le0 (by rw [unhide Vq, unhide Vr]; exact (unhide Hha1).1)⟩
    go_wp2_with fail
    refine (cmp_c _ iq ia).mono ?_
    rintro e w4 ⟨rfl, hq⟩
    rw [← hy0]
    clear hy0
    replace ia := ia.qd hq
    replace ir := ir.qd hq
    replace ix := ix.qd hq
    replace iq := iq.qd hq
    replace hb := hb.trans (hq.below _)
    clear hq
    go_wp2_with fail
    refine (mul_c _ ix ix (by omega) (by omega)).mono ?_
    rintro e w5 ⟨As, ns, cs, ls, rfl, Ns, vs, os, hw⟩
    have us : val ls < pw 26 := by rw [vs]; exact pw_mul_lt ux ux (by omega)
    replace ia := ia.below hw
    replace ir := ir.below hw
    replace ix := ix.below hw
    replace iq := iq.below hw
    replace hb := hb.trans (hw.mono hb.size)
    have is := os.toIn
    have bs : ns ≤ 26 := by have := Ns.length_le us; have := is.len; omega
    have Vs := hide vs
    clear vs os hw
    go_wp2_with fail
    refine (cmp_c _ is ia).mono ?_
    rintro e w6 ⟨rfl, hq⟩
    rw [cmpN_gt (by rw [unhide Vs, unhide Vx, unhide Vr]; exact (unhide Hha1).2)]
    replace ia := ia.qd hq
    replace ir := ir.qd hq
    replace ix := ix.qd hq
    replace iq := iq.qd hq
    replace is := is.qd hq
    replace hb := hb.trans (hq.below _)
    clear hq
    go_wp2_with fail
    refine (refSqrt_c _ ia (by omega)).mono ?_
    rintro e w7 ⟨sb, hb1, At, nt, ct, lt, rfl, Nt, vt, ot, hw⟩
    have ut : val lt < pw 12 := by rw [vt]; exact Nat.lt_of_le_of_lt (Nat.le_trans (le_sqr _) hb1.1) ua
    replace ia := ia.below hw
    replace ir := ir.below hw
    replace ix := ix.below hw
    replace iq := iq.below hw
    replace is := is.below hw
    replace hb := hb.trans (hw.mono hb.size)
    have it := ot.toIn
    have bt : nt ≤ 12 := by have := Nt.length_le ut; have := it.len; omega
    have Vt := hide vt
    clear vt ot hw
    have Hhb1 := hide hb1
    clear hb1
    go_wp2_with fail
    refine (same_t _ ir it (Nr.unique Nt (by rw [unhide Vr, unhide Vt]; exact IsSqrt.unique (unhide Hha1) (unhide Hhb1)))).mono ?_
    rintro e w8 ⟨rfl, hq⟩
    replace ia := ia.qd hq
    replace ir := ir.qd hq
    replace ix := ix.qd hq
    replace iq := iq.qd hq
    replace is := is.qd hq
    replace it := it.qd hq
    replace hb := hb.trans (hq.below _)
    clear hq
    go_wp2_with fail
    refine (example_c _).mono ?_
    rintro e w9 ⟨rfl, hw⟩
    replace hb := hb.trans (hw.mono hb.size)
    go_wp2_with fail
    go_ret
    exact ⟨rfl, hb⟩
  · have t0 : (12 : Int) < (na : Int) := by omega
    go_enter Try.func11, Try.ntmps11
    go_wp2_with fail
    refine (example_c w).mono ?_
    rintro e w1 ⟨rfl, hw⟩
    go_wp2_with fail
    go_ret
    exact ⟨rfl, hw⟩

end Go.Proofs.Ytklohficlfnjfaa
