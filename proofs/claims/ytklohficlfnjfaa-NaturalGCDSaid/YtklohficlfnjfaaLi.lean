/-
  Walks: the law of the greatest common divisor.
-/
import Derived.Test.YtklohficlfnjfaaLb
import Derived.Test.YtklohficlfnjfaaRi
namespace Go.Proofs.Ytklohficlfnjfaa
set_option linter.unusedVariables false
set_option linter.unusedSimpArgs false
open Go.RowKit

set_option maxRecDepth 100000 in
set_option maxHeartbeats 8000000 in
theorem lawGcd {Aa Ab Ac : Option Addr} {na ca nb cb nc cc : Nat} {la lb lc : List Nat} (w : World) (ia : In w Aa na ca la) (ib : In w Ab nb cb lb) (ic : In w Ac nc cc lc) :
    Calls Try.prog 8 #[.slice Aa na ca, .slice Ab nb cb, .slice Ac nc cc] w fun e w' => e = .returned (.bool true) ∧ Below w.heap.size w w' := by
  have hb := Below.refl w.heap.size w
  by_cases hs : na ≤ 12 ∧ nb ≤ 12
  · obtain ⟨ba, bb⟩ := hs
    by_cases bc : nc ≤ 6
    · have ua := val_lt_of ia.dig (Nat.le_trans (Nat.le_of_eq ia.len) ba)
      have ub := val_lt_of ib.dig (Nat.le_trans (Nat.le_of_eq ib.len) bb)
      have uc := val_lt_of ic.dig (Nat.le_trans (Nat.le_of_eq ic.len) bc)
      have t0 : ¬ (6 : Int) < (nc : Int) := by omega
      go_enter Try.func8, Try.ntmps8
      go_wp2_with fail
      refine (few_t w ba bb (by omega)).mono ?_
      rintro e w' ⟨rfl, rfl⟩
      go_wp2_with fail
      refine (gcd_c _ ia ib (by omega) (by omega)).mono ?_
      rintro e w1 ⟨Ag, ng, cg, lg, rfl, Ng, vg, og, hw⟩
      have ug : val lg < pw 12 := by rw [vg]; exact pw_gcd_lt ua ub (by omega) (by omega)
      replace ia := ia.below hw
      replace ib := ib.below hw
      replace ic := ic.below hw
      replace hb := hb.trans (hw.mono hb.size)
      have ig := og.toIn
      have bg : ng ≤ 12 := by have := Ng.length_le ug; have := ig.len; omega
      have Vg := hide vg
      clear vg og hw
      go_wp2_with fail
      refine (refGcd_c _ ia ib (by omega) (by omega)).mono ?_
      rintro e w2 ⟨Ah, nh, ch, lh, rfl, Nh, vh, oh, hw⟩
      have uh : val lh < pw 12 := by rw [vh]; exact pw_gcd_lt ua ub (by omega) (by omega)
      replace ia := ia.below hw
      replace ib := ib.below hw
      replace ic := ic.below hw
      replace ig := ig.below hw
      replace hb := hb.trans (hw.mono hb.size)
      have ih := oh.toIn
      have bh : nh ≤ 12 := by have := Nh.length_le uh; have := ih.len; omega
      have Vh := hide vh
      clear vh oh hw
      go_wp2_with fail
      refine (same_t _ ig ih (Ng.unique Nh (by rw [unhide Vg, unhide Vh]))).mono ?_
      rintro e w3 ⟨rfl, hq⟩
      replace ia := ia.qd hq
      replace ib := ib.qd hq
      replace ic := ic.qd hq
      replace ig := ig.qd hq
      replace ih := ih.qd hq
      replace hb := hb.trans (hq.below _)
      clear hq
      go_wp2_with fail
      refine (gcd_c _ ib ia (by omega) (by omega)).mono ?_
      rintro e w4 ⟨Ai, ni, ci, li, rfl, Ni, vi, oi, hw⟩
      have ui : val li < pw 12 := by rw [vi]; exact pw_gcd_lt ub ua (by omega) (by omega)
      replace ia := ia.below hw
      replace ib := ib.below hw
      replace ic := ic.below hw
      replace ig := ig.below hw
      replace ih := ih.below hw
      replace hb := hb.trans (hw.mono hb.size)
      have ii := oi.toIn
      have bi : ni ≤ 12 := by have := Ni.length_le ui; have := ii.len; omega
      have Vi := hide vi
      clear vi oi hw
      go_wp2_with fail
      refine (same_t _ ig ii (Ng.unique Ni (by rw [unhide Vg, unhide Vi, Nat.gcd_comm]))).mono ?_
      rintro e w5 ⟨rfl, hq⟩
      replace ia := ia.qd hq
      replace ib := ib.qd hq
      replace ic := ic.qd hq
      replace ig := ig.qd hq
      replace ih := ih.qd hq
      replace ii := ii.qd hq
      replace hb := hb.trans (hq.below _)
      clear hq
      by_cases hz : val lg = 0
      · skip
        have hab : val la = 0 ∧ val lb = 0 := by rw [unhide Vg] at hz; exact ⟨Nat.eq_zero_of_gcd_eq_zero_left hz, Nat.eq_zero_of_gcd_eq_zero_right hz⟩
        have HAB := hide hab
        have hg0 : ng = 0 := by rw [← ig.len, Ng.zero hz]; rfl
        clear hab hz
        subst hg0
        go_wp2_with fail
        refine (normalize_c _ ia (by omega)).mono ?_
        rintro e w6 ⟨As, ns, cs, rfl, os, hw⟩
        have Ns := trim_norm ia.dig
        have vs := val_trim la
        obtain ⟨ls, hls⟩ : ∃ ls, ls = trim la := ⟨_, rfl⟩
        rw [← hls] at os Ns vs
        have Ls := hide hls
        clear hls
        have us : val ls < pw 12 := by rw [vs]; exact ua
        replace ia := ia.below hw
        replace ib := ib.below hw
        replace ic := ic.below hw
        replace ig := ig.below hw
        replace ih := ih.below hw
        replace ii := ii.below hw
        replace hb := hb.trans (hw.mono hb.size)
        have is := os.toIn
        have bs : ns ≤ 12 := by have := Ns.length_le us; have := is.len; omega
        have Vs := hide vs
        clear vs os hw
        have hs0 : ns = 0 := by rw [← is.len, Ns.zero (by rw [unhide Vs]; exact (unhide HAB).1)]; rfl
        subst hs0
        go_wp2_with fail
        refine (normalize_c _ ib (by omega)).mono ?_
        rintro e w7 ⟨At, nt, ct, rfl, ot, hw⟩
        have Nt := trim_norm ib.dig
        have vt := val_trim lb
        obtain ⟨lt, hlt⟩ : ∃ lt, lt = trim lb := ⟨_, rfl⟩
        rw [← hlt] at ot Nt vt
        have Lt := hide hlt
        clear hlt
        have ut : val lt < pw 12 := by rw [vt]; exact ub
        replace ia := ia.below hw
        replace ib := ib.below hw
        replace ic := ic.below hw
        replace ig := ig.below hw
        replace ih := ih.below hw
        replace ii := ii.below hw
        replace is := is.below hw
        replace hb := hb.trans (hw.mono hb.size)
        have it := ot.toIn
        have bt : nt ≤ 12 := by have := Nt.length_le ut; have := it.len; omega
        have Vt := hide vt
        clear vt ot hw
        have ht0 : nt = 0 := by rw [← it.len, Nt.zero (by rw [unhide Vt]; exact (unhide HAB).2)]; rfl
        subst ht0
        go_wp2_with fail
        refine (example_c _).mono ?_
        rintro e w8 ⟨rfl, hw⟩
        replace hb := hb.trans (hw.mono hb.size)
        go_wp2_with fail
        go_ret
        exact ⟨rfl, hb⟩
      · skip
        have hg0 : ((ng : Int) == 0) = false := by
          have : ng ≠ 0 := by
            intro h
            have h1 := ig.len
            rw [h] at h1
            rw [List.length_eq_zero_iff.1 h1] at hz
            exact hz rfl
          simp; omega
        have HZ := hide hz
        clear hz
        go_wp2_with fail
        refine (divmod_c _ ia ig (by omega) (by omega)).mono ?_
        rintro e w6 ⟨Ax, nx, cx, lx, Ar, nr, cr, lr, rfl, Nx, vx, Nr, vr, ox, or, hw⟩
        have ux : val lx < pw 12 := by rw [vx]; exact Nat.lt_of_le_of_lt (Nat.div_le_self _ _) ua
        have ur : val lr < pw 12 := by rw [vr]; exact Nat.lt_of_le_of_lt (modN_le _ _) ua
        replace ia := ia.below hw
        replace ib := ib.below hw
        replace ic := ic.below hw
        replace ig := ig.below hw
        replace ih := ih.below hw
        replace ii := ii.below hw
        replace hb := hb.trans (hw.mono hb.size)
        have ix := ox.toIn
        have bx : nx ≤ 12 := by have := Nx.length_le ux; have := ix.len; omega
        have Vx := hide vx
        have ir := or.toIn
        have br : nr ≤ 12 := by have := Nr.length_le ur; have := ir.len; omega
        have Vr := hide vr
        clear vx ox vr or hw
        have hr0 : nr = 0 := by rw [← ir.len, Nr.zero (by rw [unhide Vr, modN_pos (unhide HZ), unhide Vg]; exact Nat.mod_eq_zero_of_dvd (Nat.gcd_dvd_left _ _))]; rfl
        subst hr0
        go_wp2_with fail
        refine (divmod_c _ ib ig (by omega) (by omega)).mono ?_
        rintro e w7 ⟨Ap, np, cp, lp, As, ns, cs, ls, rfl, Np, vp, Ns, vs, op, os, hw⟩
        have up : val lp < pw 12 := by rw [vp]; exact Nat.lt_of_le_of_lt (Nat.div_le_self _ _) ub
        have us : val ls < pw 12 := by rw [vs]; exact Nat.lt_of_le_of_lt (modN_le _ _) ub
        replace ia := ia.below hw
        replace ib := ib.below hw
        replace ic := ic.below hw
        replace ig := ig.below hw
        replace ih := ih.below hw
        replace ii := ii.below hw
        replace ix := ix.below hw
        replace ir := ir.below hw
        replace hb := hb.trans (hw.mono hb.size)
        have ip := op.toIn
        have bp : np ≤ 12 := by have := Np.length_le up; have := ip.len; omega
        have Vp := hide vp
        have is := os.toIn
        have bs : ns ≤ 12 := by have := Ns.length_le us; have := is.len; omega
        have Vs := hide vs
        clear vp op vs os hw
        have hs0 : ns = 0 := by rw [← is.len, Ns.zero (by rw [unhide Vs, modN_pos (unhide HZ), unhide Vg]; exact Nat.mod_eq_zero_of_dvd (Nat.gcd_dvd_right _ _))]; rfl
        subst hs0
        go_wp2_with fail
        refine (gcd_c _ ix ip (by omega) (by omega)).mono ?_
        rintro e w8 ⟨Au, nu, cu, lu, rfl, Nu, vu, ou, hw⟩
        have uu : val lu < pw 12 := by rw [vu]; exact pw_gcd_lt ux up (by omega) (by omega)
        replace ia := ia.below hw
        replace ib := ib.below hw
        replace ic := ic.below hw
        replace ig := ig.below hw
        replace ih := ih.below hw
        replace ii := ii.below hw
        replace ix := ix.below hw
        replace ir := ir.below hw
        replace ip := ip.below hw
        replace is := is.below hw
        replace hb := hb.trans (hw.mono hb.size)
        have iu := ou.toIn
        have bu : nu ≤ 12 := by have := Nu.length_le uu; have := iu.len; omega
        have Vu := hide vu
        clear vu ou hw
        have il := in_lit w8 [1] 1 #[.int .u32 1] rfl (Dig.one (by omega)) rfl (by omega)
        have hl := below_lit w8 (.cells #[.int .u32 1] 44)
        replace ia := ia.below hl
        replace ib := ib.below hl
        replace ic := ic.below hl
        replace ig := ig.below hl
        replace ih := ih.below hl
        replace ii := ii.below hl
        replace ix := ix.below hl
        replace ir := ir.below hl
        replace ip := ip.below hl
        replace is := is.below hl
        replace iu := iu.below hl
        replace hb := hb.trans (hl.mono hb.size)
        clear hl
        have h1 : lu = [1] := Nu.unique (Norm.one (by omega) (by omega)) (by rw [unhide Vu, unhide Vx, unhide Vp, unhide Vg, val_one]; exact Nat.coprime_div_gcd_div_gcd (Nat.pos_of_ne_zero (by rw [← unhide Vg]; exact unhide HZ)))
        go_wp2_with fail
        refine (same_t _ iu il h1).mono ?_
        clear h1 il
        rintro e w9 ⟨rfl, hq⟩
        replace ia := ia.qd hq
        replace ib := ib.qd hq
        replace ic := ic.qd hq
        replace ig := ig.qd hq
        replace ih := ih.qd hq
        replace ii := ii.qd hq
        replace ix := ix.qd hq
        replace ir := ir.qd hq
        replace ip := ip.qd hq
        replace is := is.qd hq
        replace iu := iu.qd hq
        replace hb := hb.trans (hq.below _)
        clear hq
        go_wp2_with fail
        refine (mul_c _ ia ic (by omega) (by omega)).mono ?_
        rintro e w10 ⟨Aaa, naa, caa, laa, rfl, Naa, vaa, oaa, hw⟩
        have uaa : val laa < pw 18 := by rw [vaa]; exact pw_mul_lt ua uc (by omega)
        replace ia := ia.below hw
        replace ib := ib.below hw
        replace ic := ic.below hw
        replace ig := ig.below hw
        replace ih := ih.below hw
        replace ii := ii.below hw
        replace ix := ix.below hw
        replace ir := ir.below hw
        replace ip := ip.below hw
        replace is := is.below hw
        replace iu := iu.below hw
        replace hb := hb.trans (hw.mono hb.size)
        have iaa := oaa.toIn
        have baa : naa ≤ 18 := by have := Naa.length_le uaa; have := iaa.len; omega
        have Vaa := hide vaa
        clear vaa oaa hw
        go_wp2_with fail
        refine (mul_c _ ib ic (by omega) (by omega)).mono ?_
        rintro e w11 ⟨Abb, nbb, cbb, lbb, rfl, Nbb, vbb, obb, hw⟩
        have ubb : val lbb < pw 18 := by rw [vbb]; exact pw_mul_lt ub uc (by omega)
        replace ia := ia.below hw
        replace ib := ib.below hw
        replace ic := ic.below hw
        replace ig := ig.below hw
        replace ih := ih.below hw
        replace ii := ii.below hw
        replace ix := ix.below hw
        replace ir := ir.below hw
        replace ip := ip.below hw
        replace is := is.below hw
        replace iu := iu.below hw
        replace iaa := iaa.below hw
        replace hb := hb.trans (hw.mono hb.size)
        have ibb := obb.toIn
        have bbb : nbb ≤ 18 := by have := Nbb.length_le ubb; have := ibb.len; omega
        have Vbb := hide vbb
        clear vbb obb hw
        go_wp2_with fail
        refine (gcd_c _ iaa ibb (by omega) (by omega)).mono ?_
        rintro e w12 ⟨Ad, nd, cd, ld, rfl, Nd, vd, od, hw⟩
        have ud : val ld < pw 18 := by rw [vd]; exact pw_gcd_lt uaa ubb (by omega) (by omega)
        replace ia := ia.below hw
        replace ib := ib.below hw
        replace ic := ic.below hw
        replace ig := ig.below hw
        replace ih := ih.below hw
        replace ii := ii.below hw
        replace ix := ix.below hw
        replace ir := ir.below hw
        replace ip := ip.below hw
        replace is := is.below hw
        replace iu := iu.below hw
        replace iaa := iaa.below hw
        replace ibb := ibb.below hw
        replace hb := hb.trans (hw.mono hb.size)
        have id := od.toIn
        have bd : nd ≤ 18 := by have := Nd.length_le ud; have := id.len; omega
        have Vd := hide vd
        clear vd od hw
        go_wp2_with fail
        refine (mul_c _ ig ic (by omega) (by omega)).mono ?_
        rintro e w13 ⟨Ae, ne, ce, le, rfl, Ne, ve, oe, hw⟩
        have ue : val le < pw 18 := by rw [ve]; exact pw_mul_lt ug uc (by omega)
        replace ia := ia.below hw
        replace ib := ib.below hw
        replace ic := ic.below hw
        replace ig := ig.below hw
        replace ih := ih.below hw
        replace ii := ii.below hw
        replace ix := ix.below hw
        replace ir := ir.below hw
        replace ip := ip.below hw
        replace is := is.below hw
        replace iu := iu.below hw
        replace iaa := iaa.below hw
        replace ibb := ibb.below hw
        replace id := id.below hw
        replace hb := hb.trans (hw.mono hb.size)
        have ie := oe.toIn
        have be : ne ≤ 18 := by have := Ne.length_le ue; have := ie.len; omega
        have Ve := hide ve
        clear ve oe hw
        go_wp2_with fail
        refine (same_t _ id ie (Nd.unique Ne (by rw [unhide Vd, unhide Ve, unhide Vaa, unhide Vbb, unhide Vg, Nat.gcd_mul_right]))).mono ?_
        rintro e w14 ⟨rfl, hq⟩
        replace ia := ia.qd hq
        replace ib := ib.qd hq
        replace ic := ic.qd hq
        replace ig := ig.qd hq
        replace ih := ih.qd hq
        replace ii := ii.qd hq
        replace ix := ix.qd hq
        replace ir := ir.qd hq
        replace ip := ip.qd hq
        replace is := is.qd hq
        replace iu := iu.qd hq
        replace iaa := iaa.qd hq
        replace ibb := ibb.qd hq
        replace id := id.qd hq
        replace ie := ie.qd hq
        replace hb := hb.trans (hq.below _)
        clear hq
        go_wp2_with fail
        refine (example_c _).mono ?_
        rintro e w15 ⟨rfl, hw⟩
        replace hb := hb.trans (hw.mono hb.size)
        go_wp2_with fail
        go_ret
        exact ⟨rfl, hb⟩
    · have hnc := ic.lenI
      have t0 : (6 : Int) < (nc : Int) := by omega
      go_enter Try.func8, Try.ntmps8
      go_wp2_with fail
      refine (few_t w ba bb (by omega)).mono ?_
      rintro e w' ⟨rfl, rfl⟩
      go_wp2_with fail
      refine (example_c w).mono ?_
      rintro e w1 ⟨rfl, hw⟩
      go_wp2_with fail
      go_ret
      exact ⟨rfl, hw⟩
  · have hna := ia.lenI
    have hnb := ib.lenI
    go_enter Try.func8, Try.ntmps8
    go_wp2_with fail
    refine (few_f w hs hna hnb (by omega)).mono ?_
    rintro e w' ⟨rfl, rfl⟩
    go_wp2_with fail
    refine (example_c w).mono ?_
    rintro e w1 ⟨rfl, hw⟩
    go_wp2_with fail
    go_ret
    exact ⟨rfl, hw⟩

end Go.Proofs.Ytklohficlfnjfaa
