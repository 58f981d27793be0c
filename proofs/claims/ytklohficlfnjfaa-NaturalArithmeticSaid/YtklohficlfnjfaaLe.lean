/-
  Walks: the law of sum, difference and product.
-/
import Derived.Test.YtklohficlfnjfaaLb
import Derived.Test.YtklohficlfnjfaaRc
namespace Go.Proofs.Ytklohficlfnjfaa
set_option linter.unusedVariables false
set_option linter.unusedSimpArgs false
open Go.RowKit

set_option maxRecDepth 100000 in
set_option maxHeartbeats 8000000 in
theorem lawArithmetic {Aa Ab : Option Addr} {na ca nb cb : Nat} {la lb : List Nat} (w : World) (ia : In w Aa na ca la) (ib : In w Ab nb cb lb) :
    Calls Try.prog 9 #[.slice Aa na ca, .slice Ab nb cb] w fun e w' => e = .returned (.bool true) ∧ Below w.heap.size w w' := by
  have hb := Below.refl w.heap.size w
  by_cases hs : na ≤ 80 ∧ nb ≤ 80
  · obtain ⟨ba, bb⟩ := hs
    have ua := val_lt_of ia.dig (Nat.le_trans (Nat.le_of_eq ia.len) ba)
    have ub := val_lt_of ib.dig (Nat.le_trans (Nat.le_of_eq ib.len) bb)
    go_enter Try.func9, Try.ntmps9
    go_wp2_with fail
    refine (few_t w ba bb (by omega)).mono ?_
    rintro e w' ⟨rfl, rfl⟩
    obtain ⟨b0, hb0⟩ : ∃ b0, b0 = decide (val lb ≤ val la) := ⟨_, rfl⟩
    go_wp2_with fail
    refine (sub_c _ ia ib (by omega)).mono ?_
    rintro e w1 ⟨Ax, nx, cx, lx, rfl, Nx, vx, ox, hw⟩
    rw [← hb0]
    have ux : val lx < pw 80 := by rw [vx]; exact Nat.lt_of_le_of_lt (Nat.sub_le _ _) ua
    replace ia := ia.below hw
    replace ib := ib.below hw
    replace hb := hb.trans (hw.mono hb.size)
    have ix := ox.toIn
    have bx : nx ≤ 80 := by have := Nx.length_le ux; have := ix.len; omega
    have Vx := hide vx
    clear vx ox hw
    go_wp2_with fail
    refine (refSub_c _ ia ib (by omega)).mono ?_
    rintro e w2 ⟨Az, nz, cz, lz, rfl, Nz, vz, oz, hw⟩
    rw [← hb0]
    clear hb0
    have uz : val lz < pw 80 := by rw [vz]; exact Nat.lt_of_le_of_lt (Nat.sub_le _ _) ua
    replace ia := ia.below hw
    replace ib := ib.below hw
    replace ix := ix.below hw
    replace hb := hb.trans (hw.mono hb.size)
    have iz := oz.toIn
    have bz : nz ≤ 80 := by have := Nz.length_le uz; have := iz.len; omega
    have Vz := hide vz
    clear vz oz hw
    go_wp2_with fail
    refine (add_c _ ia ib (by omega) (by omega)).mono ?_
    rintro e w3 ⟨As, ns, cs, ls, rfl, Ns, vs, os, hw⟩
    have us : val ls < pw 81 := by rw [vs]; exact pw_add_lt ua ub (by omega) (by omega)
    replace ia := ia.below hw
    replace ib := ib.below hw
    replace ix := ix.below hw
    replace iz := iz.below hw
    replace hb := hb.trans (hw.mono hb.size)
    have is := os.toIn
    have bs : ns ≤ 81 := by have := Ns.length_le us; have := is.len; omega
    have Vs := hide vs
    clear vs os hw
    go_wp2_with fail
    refine (refAdd_c _ ia ib (by omega) (by omega)).mono ?_
    rintro e w4 ⟨At, nt, ct, lt, rfl, Nt, vt, ot, hw⟩
    have ut : val lt < pw 81 := by rw [vt]; exact pw_add_lt ua ub (by omega) (by omega)
    replace ia := ia.below hw
    replace ib := ib.below hw
    replace ix := ix.below hw
    replace iz := iz.below hw
    replace is := is.below hw
    replace hb := hb.trans (hw.mono hb.size)
    have it := ot.toIn
    have bt : nt ≤ 81 := by have := Nt.length_le ut; have := it.len; omega
    have Vt := hide vt
    clear vt ot hw
    go_wp2_with fail
    refine (same_t _ is it (Ns.unique Nt (by rw [unhide Vs, unhide Vt]))).mono ?_
    rintro e w5 ⟨rfl, hq⟩
    replace ia := ia.qd hq
    replace ib := ib.qd hq
    replace ix := ix.qd hq
    replace iz := iz.qd hq
    replace is := is.qd hq
    replace it := it.qd hq
    replace hb := hb.trans (hq.below _)
    clear hq
    go_wp2_with fail
    refine (same_t _ ix iz (Nx.unique Nz (by rw [unhide Vx, unhide Vz]))).mono ?_
    rintro e w6 ⟨rfl, hq⟩
    replace ia := ia.qd hq
    replace ib := ib.qd hq
    replace ix := ix.qd hq
    replace iz := iz.qd hq
    replace is := is.qd hq
    replace it := it.qd hq
    replace hb := hb.trans (hq.below _)
    clear hq
    go_wp2_with fail
    refine (mul_c _ ia ib (by omega) (by omega)).mono ?_
    rintro e w7 ⟨Aq, nq, cq, lq, rfl, Nq, vq, oq, hw⟩
    have uq : val lq < pw 160 := by rw [vq]; exact pw_mul_lt ua ub (by omega)
    replace ia := ia.below hw
    replace ib := ib.below hw
    replace ix := ix.below hw
    replace iz := iz.below hw
    replace is := is.below hw
    replace it := it.below hw
    replace hb := hb.trans (hw.mono hb.size)
    have iq := oq.toIn
    have bq : nq ≤ 160 := by have := Nq.length_le uq; have := iq.len; omega
    have Vq := hide vq
    clear vq oq hw
    go_wp2_with fail
    refine (refMul_c _ ia ib (by omega) (by omega)).mono ?_
    rintro e w8 ⟨Ar, nr, cr, lr, rfl, Nr, vr, or, hw⟩
    have ur : val lr < pw 160 := by rw [vr]; exact pw_mul_lt ua ub (by omega)
    replace ia := ia.below hw
    replace ib := ib.below hw
    replace ix := ix.below hw
    replace iz := iz.below hw
    replace is := is.below hw
    replace it := it.below hw
    replace iq := iq.below hw
    replace hb := hb.trans (hw.mono hb.size)
    have ir := or.toIn
    have br : nr ≤ 160 := by have := Nr.length_le ur; have := ir.len; omega
    have Vr := hide vr
    clear vr or hw
    go_wp2_with fail
    refine (same_t _ iq ir (Nq.unique Nr (by rw [unhide Vq, unhide Vr]))).mono ?_
    rintro e w9 ⟨rfl, hq⟩
    replace ia := ia.qd hq
    replace ib := ib.qd hq
    replace ix := ix.qd hq
    replace iz := iz.qd hq
    replace is := is.qd hq
    replace it := it.qd hq
    replace iq := iq.qd hq
    replace ir := ir.qd hq
    replace hb := hb.trans (hq.below _)
    clear hq
    go_wp2_with fail
    refine (example_c _).mono ?_
    rintro e w10 ⟨rfl, hw⟩
    replace hb := hb.trans (hw.mono hb.size)
    go_wp2_with fail
    go_ret
    exact ⟨rfl, hb⟩
  · have hna := ia.lenI
    have hnb := ib.lenI
    go_enter Try.func9, Try.ntmps9
    go_wp2_with fail
    refine (few_f w hs hna hnb (by omega)).mono ?_
    rintro e w' ⟨rfl, rfl⟩
    go_wp2_with fail
    refine (example_c w).mono ?_
    rintro e w1 ⟨rfl, hw⟩
    go_wp2_with fail
    go_ret
    exact ⟨rfl, hw⟩

end Go.Proofs.Ytklohficlfnjfaa
