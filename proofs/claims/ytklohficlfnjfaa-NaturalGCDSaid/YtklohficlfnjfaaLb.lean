/-
  Walks: the laws of chapter 1 that need no reference but Same.
-/
import Derived.Test.YtklohficlfnjfaaLa
import Derived.Test.YtklohficlfnjfaaRow
namespace Go.Proofs.Ytklohficlfnjfaa
set_option linter.unusedVariables false
set_option linter.unusedSimpArgs false
open Go.RowKit

theorem pw_add_lt {a b i j k : Nat} (ha : a < pw i) (hb : b < pw j) (hi : i + 1 ≤ k) (hj : j + 1 ≤ k) : a + b < pw k := by
  obtain ⟨m, rfl⟩ : ∃ m, k = m + 1 := ⟨k - 1, by omega⟩
  have h1 := pw_le (show i ≤ m by omega)
  have h2 := pw_le (show j ≤ m by omega)
  rw [pw_succ]; omega
theorem pw_mul_lt {a b i j k : Nat} (ha : a < pw i) (hb : b < pw j) (hk : i + j ≤ k) : a * b < pw k := by
  have h1 : a * b < pw i * pw j := Nat.mul_lt_mul'' ha hb
  rw [← pw_add] at h1
  exact Nat.lt_of_lt_of_le h1 (pw_le hk)
theorem pw_gcd_lt {a b i j k : Nat} (ha : a < pw i) (hb : b < pw j) (hi : i ≤ k) (hj : j ≤ k) : Nat.gcd a b < pw k := by
  rcases Nat.eq_zero_or_pos a with h | h
  · subst h; rw [Nat.gcd_zero_left]; exact Nat.lt_of_lt_of_le hb (pw_le hj)
  · exact Nat.lt_of_le_of_lt (Nat.gcd_le_left _ h) (Nat.lt_of_lt_of_le ha (pw_le hi))
theorem modN_le (a b : Nat) : modN a b ≤ a := by
  unfold modN; split
  · exact Nat.zero_le _
  · exact Nat.mod_le _ _
theorem Norm.isNorm {l : List Nat} (h : Norm l) : decide (Go.Proofs.Ytklohficlfnjfaa.trim l = l) = true := decide_eq_true h.trim
theorem trim_of_norm {l m : List Nat} (h : Norm l) (hd : Dig m) (hv : val l = val m) : l = trim m := h.unique (trim_norm hd) (by rw [val_trim]; exact hv)

set_option maxHeartbeats 400000 in
theorem few_t {A B : Option Addr} {n c m d k : Nat} (w : World) (h1 : n ≤ k) (h2 : m ≤ k) (hk : (k : Int) ≤ 9223372036854775807) :
    Calls Try.prog 21 #[.slice A n c, .slice B m d, .int .i64 k] w fun e w' => e = .returned (.bool true) ∧ w = w' := by
  have h1' : (n : Int) ≤ k := by omega
  have h2' : (m : Int) ≤ k := by omega
  go_enter Try.func21, Try.ntmps21
  go_wp2_with fail
  go_ret
  exact ⟨rfl, rfl⟩
set_option maxHeartbeats 400000 in
theorem few_f {A B : Option Addr} {n c m d k : Nat} (w : World) (h : ¬ (n ≤ k ∧ m ≤ k)) (hn : n ≤ 9223372036854775807) (hm : m ≤ 9223372036854775807) (hk : (k : Int) ≤ 9223372036854775807) :
    Calls Try.prog 21 #[.slice A n c, .slice B m d, .int .i64 k] w fun e w' => e = .returned (.bool false) ∧ w = w' := by
  by_cases h1 : n ≤ k
  · have h1' : (n : Int) ≤ k := by omega
    have h2' : ¬ (m : Int) ≤ k := by omega
    clear h h1
    go_enter Try.func21, Try.ntmps21
    go_wp2_with fail
    go_ret
    exact ⟨rfl, rfl⟩
  · have h1' : ¬ (n : Int) ≤ k := by omega
    clear h h1
    go_enter Try.func21, Try.ntmps21
    go_wp2_with fail
    go_ret
    exact ⟨rfl, rfl⟩

set_option maxRecDepth 100000 in
set_option maxHeartbeats 4000000 in
theorem lawDivMod {Aa Ab : Option Addr} {na ca nb cb : Nat} {la lb : List Nat} (w : World) (ia : In w Aa na ca la) (ib : In w Ab nb cb lb) :
    Calls Try.prog 5 #[.slice Aa na ca, .slice Ab nb cb] w fun e w' => e = .returned (.bool true) ∧ Below w.heap.size w w' := by
  have hb := Below.refl w.heap.size w
  by_cases hs : na ≤ 60 ∧ nb ≤ 60
  · obtain ⟨ba, bb⟩ := hs
    have ua := val_lt_of ia.dig (Nat.le_trans (Nat.le_of_eq ia.len) ba)
    have ub := val_lt_of ib.dig (Nat.le_trans (Nat.le_of_eq ib.len) bb)
    go_enter Try.func5, Try.ntmps5
    go_wp2_with fail
    refine (few_t w ba bb (by omega)).mono ?_
    rintro e w' ⟨rfl, rfl⟩
    go_wp2_with fail
    refine (divmod_c _ ia ib (by omega) (by omega)).mono ?_
    rintro e w1 ⟨Aq, nq, cq, lq, Ar, nr, cr, lr, rfl, Nq, vq, Nr, vr, oq, or, hw⟩
    have uq : val lq < pw 60 := by rw [vq]; exact Nat.lt_of_le_of_lt (Nat.div_le_self _ _) ua
    have ur : val lr < pw 60 := by rw [vr]; exact Nat.lt_of_le_of_lt (modN_le _ _) ua
    replace ia := ia.below hw
    replace ib := ib.below hw
    replace hb := hb.trans (hw.mono hb.size)
    have iq := oq.toIn
    have bq : nq ≤ 60 := by have := Nq.length_le uq; have := iq.len; omega
    have Vq := hide vq
    have ir := or.toIn
    have br : nr ≤ 60 := by have := Nr.length_le ur; have := ir.len; omega
    have Vr := hide vr
    clear vq oq vr or hw
    go_wp2_with fail
    refine (normalize_c _ ib (by omega)).mono ?_
    rintro e w2 ⟨At, nt, ct, rfl, ot, hw⟩
    have Nt := trim_norm ib.dig
    have vt := val_trim lb
    obtain ⟨lt, hlt⟩ : ∃ lt, lt = trim lb := ⟨_, rfl⟩
    rw [← hlt] at ot Nt vt
    have Lt := hide hlt
    clear hlt
    have ut : val lt < pw 60 := by rw [vt]; exact ub
    replace ia := ia.below hw
    replace ib := ib.below hw
    replace iq := iq.below hw
    replace ir := ir.below hw
    replace hb := hb.trans (hw.mono hb.size)
    have it := ot.toIn
    have bt : nt ≤ 60 := by have := Nt.length_le ut; have := it.len; omega
    have Vt := hide vt
    clear vt ot hw
    by_cases hz : val lb = 0
    · have ht0 : nt = 0 := by
        have h1 := Nt.zero (by rw [unhide Vt]; exact hz)
        rw [← it.len, h1]; rfl
      have hq0 : nq = 0 := by
        have h1 := Nq.zero (by rw [unhide Vq, hz, Nat.div_zero])
        rw [← iq.len, h1]; rfl
      have hr0 : nr = 0 := by
        have h1 := Nr.zero (by rw [unhide Vr, hz]; rfl)
        rw [← ir.len, h1]; rfl
      rw [show divE (val lb) = 9 by rw [hz]; rfl]
      clear hz
      subst ht0
      subst hq0
      subst hr0
      go_wp2_with fail
      refine (example_c _).mono ?_
      rintro e w3 ⟨rfl, hw⟩
      replace hb := hb.trans (hw.mono hb.size)
      go_wp2_with fail
      go_ret
      exact ⟨rfl, hb⟩
    · have ht0 : ((nt : Int) == 0) = false := by
        have : nt ≠ 0 := by
          intro h
          have h1 := it.len
          rw [h] at h1
          rw [← unhide Vt, List.length_eq_zero_iff.1 h1] at hz
          exact hz rfl
        simp; omega
      rw [divE_pos hz]
      have HZ := hide hz
      clear hz
      go_wp2_with fail
      refine (isNormalized_c _ iq).mono ?_
      rintro e w' ⟨rfl, rfl⟩
      rw [Nq.isNorm]
      go_wp2_with fail
      refine (isNormalized_c _ ir).mono ?_
      rintro e w' ⟨rfl, rfl⟩
      rw [Nr.isNorm]
      go_wp2_with fail
      refine (cmp_c _ ir ib).mono ?_
      rintro e w3 ⟨rfl, hq⟩
      rw [cmpN_lt (by rw [unhide Vr, modN_pos (unhide HZ)]; exact Nat.mod_lt _ (Nat.pos_of_ne_zero (unhide HZ)))]
      replace ia := ia.qd hq
      replace ib := ib.qd hq
      replace iq := iq.qd hq
      replace ir := ir.qd hq
      replace it := it.qd hq
      replace hb := hb.trans (hq.below _)
      clear hq
      go_wp2_with fail
      refine (mul_c _ iq ib (by omega) (by omega)).mono ?_
      rintro e w4 ⟨Ax, nx, cx, lx, rfl, Nx, vx, ox, hw⟩
      have ux : val lx < pw 120 := by rw [vx]; exact pw_mul_lt uq ub (by omega)
      replace ia := ia.below hw
      replace ib := ib.below hw
      replace iq := iq.below hw
      replace ir := ir.below hw
      replace it := it.below hw
      replace hb := hb.trans (hw.mono hb.size)
      have ix := ox.toIn
      have bx : nx ≤ 120 := by have := Nx.length_le ux; have := ix.len; omega
      have Vx := hide vx
      clear vx ox hw
      go_wp2_with fail
      refine (add_c _ ix ir (by omega) (by omega)).mono ?_
      rintro e w5 ⟨Ayy, nyy, cyy, lyy, rfl, Nyy, vyy, oyy, hw⟩
      have uyy : val lyy < pw 121 := by rw [vyy]; exact pw_add_lt ux ur (by omega) (by omega)
      replace ia := ia.below hw
      replace ib := ib.below hw
      replace iq := iq.below hw
      replace ir := ir.below hw
      replace it := it.below hw
      replace ix := ix.below hw
      replace hb := hb.trans (hw.mono hb.size)
      have iyy := oyy.toIn
      have byy : nyy ≤ 121 := by have := Nyy.length_le uyy; have := iyy.len; omega
      have Vyy := hide vyy
      clear vyy oyy hw
      go_wp2_with fail
      refine (cmp_c _ iyy ia).mono ?_
      rintro e w6 ⟨rfl, hq⟩
      rw [cmpN_eq (by rw [unhide Vyy, unhide Vx, unhide Vq, unhide Vr, modN_pos (unhide HZ), Nat.mul_comm]; exact Nat.div_add_mod _ _)]
      replace ia := ia.qd hq
      replace ib := ib.qd hq
      replace iq := iq.qd hq
      replace ir := ir.qd hq
      replace it := it.qd hq
      replace ix := ix.qd hq
      replace iyy := iyy.qd hq
      replace hb := hb.trans (hq.below _)
      clear hq
      go_wp2_with fail
      refine (example_c _).mono ?_
      rintro e w7 ⟨rfl, hw⟩
      replace hb := hb.trans (hw.mono hb.size)
      go_wp2_with fail
      go_ret
      exact ⟨rfl, hb⟩
  · have hna := ia.lenI
    have hnb := ib.lenI
    go_enter Try.func5, Try.ntmps5
    go_wp2_with fail
    refine (few_f w hs hna hnb (by omega)).mono ?_
    rintro e w' ⟨rfl, rfl⟩
    go_wp2_with fail
    refine (example_c w).mono ?_
    rintro e w1 ⟨rfl, hw⟩
    go_wp2_with fail
    go_ret
    exact ⟨rfl, hw⟩

set_option maxRecDepth 100000 in
set_option maxHeartbeats 8000000 in
theorem lawRing {Aa Ab Ac : Option Addr} {na ca nb cb nc cc : Nat} {la lb lc : List Nat} (w : World) (ia : In w Aa na ca la) (ib : In w Ab nb cb lb) (ic : In w Ac nc cc lc) :
    Calls Try.prog 10 #[.slice Aa na ca, .slice Ab nb cb, .slice Ac nc cc] w fun e w' => e = .returned (.bool true) ∧ Below w.heap.size w w' := by
  have hb := Below.refl w.heap.size w
  by_cases hs : na ≤ 20 ∧ nb ≤ 20
  · obtain ⟨ba, bb⟩ := hs
    by_cases bc : nc ≤ 20
    · have ua := val_lt_of ia.dig (Nat.le_trans (Nat.le_of_eq ia.len) ba)
      have ub := val_lt_of ib.dig (Nat.le_trans (Nat.le_of_eq ib.len) bb)
      have uc := val_lt_of ic.dig (Nat.le_trans (Nat.le_of_eq ic.len) bc)
      have t0 : ¬ (20 : Int) < (nc : Int) := by omega
      go_enter Try.func10, Try.ntmps10
      go_wp2_with fail
      refine (few_t w ba bb (by omega)).mono ?_
      rintro e w' ⟨rfl, rfl⟩
      go_wp2_with fail
      refine (add_c _ ia ib (by omega) (by omega)).mono ?_
      rintro e w1 ⟨As, ns, cs, ls, rfl, Ns, vs, os, hw⟩
      have us : val ls < pw 21 := by rw [vs]; exact pw_add_lt ua ub (by omega) (by omega)
      replace ia := ia.below hw
      replace ib := ib.below hw
      replace ic := ic.below hw
      replace hb := hb.trans (hw.mono hb.size)
      have is := os.toIn
      have bs : ns ≤ 21 := by have := Ns.length_le us; have := is.len; omega
      have Vs := hide vs
      clear vs os hw
      go_wp2_with fail
      refine (sub_c _ is ib (by omega)).mono ?_
      rintro e w2 ⟨Ad, nd, cd, ld, rfl, Nd, vd, od, hw⟩
      have hdec : decide (val lb ≤ val ls) = true := decide_eq_true (by have := unhide Vs; omega)
      rw [hdec]
      clear hdec
      have ud : val ld < pw 21 := by rw [vd]; exact Nat.lt_of_le_of_lt (Nat.sub_le _ _) us
      replace ia := ia.below hw
      replace ib := ib.below hw
      replace ic := ic.below hw
      replace is := is.below hw
      replace hb := hb.trans (hw.mono hb.size)
      have id := od.toIn
      have bd : nd ≤ 21 := by have := Nd.length_le ud; have := id.len; omega
      have Vd := hide vd
      clear vd od hw
      go_wp2_with fail
      refine (add_c _ ib ia (by omega) (by omega)).mono ?_
      rintro e w3 ⟨Ap, np, cp, lp, rfl, Np, vp, op, hw⟩
      have up : val lp < pw 21 := by rw [vp]; exact pw_add_lt ub ua (by omega) (by omega)
      replace ia := ia.below hw
      replace ib := ib.below hw
      replace ic := ic.below hw
      replace is := is.below hw
      replace id := id.below hw
      replace hb := hb.trans (hw.mono hb.size)
      have ip := op.toIn
      have bp : np ≤ 21 := by have := Np.length_le up; have := ip.len; omega
      have Vp := hide vp
      clear vp op hw
      go_wp2_with fail
      refine (same_t _ is ip (Ns.unique Np (by rw [unhide Vs, unhide Vp]; omega))).mono ?_
      rintro e w4 ⟨rfl, hq⟩
      replace ia := ia.qd hq
      replace ib := ib.qd hq
      replace ic := ic.qd hq
      replace is := is.qd hq
      replace id := id.qd hq
      replace ip := ip.qd hq
      replace hb := hb.trans (hq.below _)
      clear hq
      go_wp2_with fail
      refine (mul_c _ ia ib (by omega) (by omega)).mono ?_
      rintro e w5 ⟨Aq, nq, cq, lq, rfl, Nq, vq, oq, hw⟩
      have uq : val lq < pw 40 := by rw [vq]; exact pw_mul_lt ua ub (by omega)
      replace ia := ia.below hw
      replace ib := ib.below hw
      replace ic := ic.below hw
      replace is := is.below hw
      replace id := id.below hw
      replace ip := ip.below hw
      replace hb := hb.trans (hw.mono hb.size)
      have iq := oq.toIn
      have bq : nq ≤ 40 := by have := Nq.length_le uq; have := iq.len; omega
      have Vq := hide vq
      clear vq oq hw
      go_wp2_with fail
      refine (mul_c _ ib ia (by omega) (by omega)).mono ?_
      rintro e w6 ⟨Ar, nr, cr, lr, rfl, Nr, vr, or, hw⟩
      have ur : val lr < pw 40 := by rw [vr]; exact pw_mul_lt ub ua (by omega)
      replace ia := ia.below hw
      replace ib := ib.below hw
      replace ic := ic.below hw
      replace is := is.below hw
      replace id := id.below hw
      replace ip := ip.below hw
      replace iq := iq.below hw
      replace hb := hb.trans (hw.mono hb.size)
      have ir := or.toIn
      have br : nr ≤ 40 := by have := Nr.length_le ur; have := ir.len; omega
      have Vr := hide vr
      clear vr or hw
      go_wp2_with fail
      refine (same_t _ iq ir (Nq.unique Nr (by rw [unhide Vq, unhide Vr, Nat.mul_comm]))).mono ?_
      rintro e w7 ⟨rfl, hq⟩
      replace ia := ia.qd hq
      replace ib := ib.qd hq
      replace ic := ic.qd hq
      replace is := is.qd hq
      replace id := id.qd hq
      replace ip := ip.qd hq
      replace iq := iq.qd hq
      replace ir := ir.qd hq
      replace hb := hb.trans (hq.below _)
      clear hq
      go_wp2_with fail
      refine (mul_c _ is ic (by omega) (by omega)).mono ?_
      rintro e w8 ⟨At, nt, ct, lt, rfl, Nt, vt, ot, hw⟩
      have ut : val lt < pw 41 := by rw [vt]; exact pw_mul_lt us uc (by omega)
      replace ia := ia.below hw
      replace ib := ib.below hw
      replace ic := ic.below hw
      replace is := is.below hw
      replace id := id.below hw
      replace ip := ip.below hw
      replace iq := iq.below hw
      replace ir := ir.below hw
      replace hb := hb.trans (hw.mono hb.size)
      have it := ot.toIn
      have bt : nt ≤ 41 := by have := Nt.length_le ut; have := it.len; omega
      have Vt := hide vt
      clear vt ot hw
      go_wp2_with fail
      refine (mul_c _ ia ic (by omega) (by omega)).mono ?_
      rintro e w9 ⟨Au, nu, cu, lu, rfl, Nu, vu, ou, hw⟩
      have uu : val lu < pw 40 := by rw [vu]; exact pw_mul_lt ua uc (by omega)
      replace ia := ia.below hw
      replace ib := ib.below hw
      replace ic := ic.below hw
      replace is := is.below hw
      replace id := id.below hw
      replace ip := ip.below hw
      replace iq := iq.below hw
      replace ir := ir.below hw
      replace it := it.below hw
      replace hb := hb.trans (hw.mono hb.size)
      have iu := ou.toIn
      have bu : nu ≤ 40 := by have := Nu.length_le uu; have := iu.len; omega
      have Vu := hide vu
      clear vu ou hw
      go_wp2_with fail
      refine (mul_c _ ib ic (by omega) (by omega)).mono ?_
      rintro e w10 ⟨Av, nv, cv, lv, rfl, Nv, vv, ov, hw⟩
      have uv : val lv < pw 40 := by rw [vv]; exact pw_mul_lt ub uc (by omega)
      replace ia := ia.below hw
      replace ib := ib.below hw
      replace ic := ic.below hw
      replace is := is.below hw
      replace id := id.below hw
      replace ip := ip.below hw
      replace iq := iq.below hw
      replace ir := ir.below hw
      replace it := it.below hw
      replace iu := iu.below hw
      replace hb := hb.trans (hw.mono hb.size)
      have iv := ov.toIn
      have bv : nv ≤ 40 := by have := Nv.length_le uv; have := iv.len; omega
      have Vv := hide vv
      clear vv ov hw
      go_wp2_with fail
      refine (add_c _ iu iv (by omega) (by omega)).mono ?_
      rintro e w11 ⟨Ax, nx, cx, lx, rfl, Nx, vx, ox, hw⟩
      have ux : val lx < pw 41 := by rw [vx]; exact pw_add_lt uu uv (by omega) (by omega)
      replace ia := ia.below hw
      replace ib := ib.below hw
      replace ic := ic.below hw
      replace is := is.below hw
      replace id := id.below hw
      replace ip := ip.below hw
      replace iq := iq.below hw
      replace ir := ir.below hw
      replace it := it.below hw
      replace iu := iu.below hw
      replace iv := iv.below hw
      replace hb := hb.trans (hw.mono hb.size)
      have ix := ox.toIn
      have bx : nx ≤ 41 := by have := Nx.length_le ux; have := ix.len; omega
      have Vx := hide vx
      clear vx ox hw
      go_wp2_with fail
      refine (same_t _ it ix (Nt.unique Nx (by rw [unhide Vt, unhide Vx, unhide Vu, unhide Vv, unhide Vs, Nat.add_mul]))).mono ?_
      rintro e w12 ⟨rfl, hq⟩
      replace ia := ia.qd hq
      replace ib := ib.qd hq
      replace ic := ic.qd hq
      replace is := is.qd hq
      replace id := id.qd hq
      replace ip := ip.qd hq
      replace iq := iq.qd hq
      replace ir := ir.qd hq
      replace it := it.qd hq
      replace iu := iu.qd hq
      replace iv := iv.qd hq
      replace ix := ix.qd hq
      replace hb := hb.trans (hq.below _)
      clear hq
      go_wp2_with fail
      refine (mul_c _ ia ib (by omega) (by omega)).mono ?_
      rintro e w13 ⟨Ayy, nyy, cyy, lyy, rfl, Nyy, vyy, oyy, hw⟩
      have uyy : val lyy < pw 40 := by rw [vyy]; exact pw_mul_lt ua ub (by omega)
      replace ia := ia.below hw
      replace ib := ib.below hw
      replace ic := ic.below hw
      replace is := is.below hw
      replace id := id.below hw
      replace ip := ip.below hw
      replace iq := iq.below hw
      replace ir := ir.below hw
      replace it := it.below hw
      replace iu := iu.below hw
      replace iv := iv.below hw
      replace ix := ix.below hw
      replace hb := hb.trans (hw.mono hb.size)
      have iyy := oyy.toIn
      have byy : nyy ≤ 40 := by have := Nyy.length_le uyy; have := iyy.len; omega
      have Vyy := hide vyy
      clear vyy oyy hw
      go_wp2_with fail
      refine (mul_c _ iyy ic (by omega) (by omega)).mono ?_
      rintro e w14 ⟨Az, nz, cz, lz, rfl, Nz, vz, oz, hw⟩
      have uz : val lz < pw 60 := by rw [vz]; exact pw_mul_lt uyy uc (by omega)
      replace ia := ia.below hw
      replace ib := ib.below hw
      replace ic := ic.below hw
      replace is := is.below hw
      replace id := id.below hw
      replace ip := ip.below hw
      replace iq := iq.below hw
      replace ir := ir.below hw
      replace it := it.below hw
      replace iu := iu.below hw
      replace iv := iv.below hw
      replace ix := ix.below hw
      replace iyy := iyy.below hw
      replace hb := hb.trans (hw.mono hb.size)
      have iz := oz.toIn
      have bz : nz ≤ 60 := by have := Nz.length_le uz; have := iz.len; omega
      have Vz := hide vz
      clear vz oz hw
      go_wp2_with fail
      refine (mul_c _ ib ic (by omega) (by omega)).mono ?_
      rintro e w15 ⟨Afa, nfa, cfa, lfa, rfl, Nfa, vfa, ofa, hw⟩
      have ufa : val lfa < pw 40 := by rw [vfa]; exact pw_mul_lt ub uc (by omega)
      replace ia := ia.below hw
      replace ib := ib.below hw
      replace ic := ic.below hw
      replace is := is.below hw
      replace id := id.below hw
      replace ip := ip.below hw
      replace iq := iq.below hw
      replace ir := ir.below hw
      replace it := it.below hw
      replace iu := iu.below hw
      replace iv := iv.below hw
      replace ix := ix.below hw
      replace iyy := iyy.below hw
      replace iz := iz.below hw
      replace hb := hb.trans (hw.mono hb.size)
      have ifa := ofa.toIn
      have bfa : nfa ≤ 40 := by have := Nfa.length_le ufa; have := ifa.len; omega
      have Vfa := hide vfa
      clear vfa ofa hw
      go_wp2_with fail
      refine (mul_c _ ia ifa (by omega) (by omega)).mono ?_
      rintro e w16 ⟨Aga, nga, cga, lga, rfl, Nga, vga, oga, hw⟩
      have uga : val lga < pw 60 := by rw [vga]; exact pw_mul_lt ua ufa (by omega)
      replace ia := ia.below hw
      replace ib := ib.below hw
      replace ic := ic.below hw
      replace is := is.below hw
      replace id := id.below hw
      replace ip := ip.below hw
      replace iq := iq.below hw
      replace ir := ir.below hw
      replace it := it.below hw
      replace iu := iu.below hw
      replace iv := iv.below hw
      replace ix := ix.below hw
      replace iyy := iyy.below hw
      replace iz := iz.below hw
      replace ifa := ifa.below hw
      replace hb := hb.trans (hw.mono hb.size)
      have iga := oga.toIn
      have bga : nga ≤ 60 := by have := Nga.length_le uga; have := iga.len; omega
      have Vga := hide vga
      clear vga oga hw
      go_wp2_with fail
      refine (same_t _ iz iga (Nz.unique Nga (by rw [unhide Vz, unhide Vga, unhide Vyy, unhide Vfa, Nat.mul_assoc]))).mono ?_
      rintro e w17 ⟨rfl, hq⟩
      replace ia := ia.qd hq
      replace ib := ib.qd hq
      replace ic := ic.qd hq
      replace is := is.qd hq
      replace id := id.qd hq
      replace ip := ip.qd hq
      replace iq := iq.qd hq
      replace ir := ir.qd hq
      replace it := it.qd hq
      replace iu := iu.qd hq
      replace iv := iv.qd hq
      replace ix := ix.qd hq
      replace iyy := iyy.qd hq
      replace iz := iz.qd hq
      replace ifa := ifa.qd hq
      replace iga := iga.qd hq
      replace hb := hb.trans (hq.below _)
      clear hq
      go_wp2_with fail
      refine (normalize_c _ ia (by omega)).mono ?_
      rintro e w18 ⟨Ah, nh, ch, rfl, oh, hw⟩
      have Nh := trim_norm ia.dig
      have vh := val_trim la
      obtain ⟨lh, hlh⟩ : ∃ lh, lh = trim la := ⟨_, rfl⟩
      rw [← hlh] at oh Nh vh
      have Lh := hide hlh
      clear hlh
      have uh : val lh < pw 20 := by rw [vh]; exact ua
      replace ia := ia.below hw
      replace ib := ib.below hw
      replace ic := ic.below hw
      replace is := is.below hw
      replace id := id.below hw
      replace ip := ip.below hw
      replace iq := iq.below hw
      replace ir := ir.below hw
      replace it := it.below hw
      replace iu := iu.below hw
      replace iv := iv.below hw
      replace ix := ix.below hw
      replace iyy := iyy.below hw
      replace iz := iz.below hw
      replace ifa := ifa.below hw
      replace iga := iga.below hw
      replace hb := hb.trans (hw.mono hb.size)
      have ih := oh.toIn
      have bh : nh ≤ 20 := by have := Nh.length_le uh; have := ih.len; omega
      have Vh := hide vh
      clear vh oh hw
      go_wp2_with fail
      refine (same_t _ id ih (Nd.unique Nh (by rw [unhide Vd, unhide Vh, unhide Vs]; omega))).mono ?_
      rintro e w19 ⟨rfl, hq⟩
      replace ia := ia.qd hq
      replace ib := ib.qd hq
      replace ic := ic.qd hq
      replace is := is.qd hq
      replace id := id.qd hq
      replace ip := ip.qd hq
      replace iq := iq.qd hq
      replace ir := ir.qd hq
      replace it := it.qd hq
      replace iu := iu.qd hq
      replace iv := iv.qd hq
      replace ix := ix.qd hq
      replace iyy := iyy.qd hq
      replace iz := iz.qd hq
      replace ifa := ifa.qd hq
      replace iga := iga.qd hq
      replace ih := ih.qd hq
      replace hb := hb.trans (hq.below _)
      clear hq
      go_wp2_with fail
      refine (example_c _).mono ?_
      rintro e w20 ⟨rfl, hw⟩
      replace hb := hb.trans (hw.mono hb.size)
      go_wp2_with fail
      go_ret
      exact ⟨rfl, hb⟩
    · have hnc := ic.lenI
      have t0 : (20 : Int) < (nc : Int) := by omega
      go_enter Try.func10, Try.ntmps10
      go_wp2_with fail
      refine (few_t w ba bb (by omega)).mono ?_
      rintro e w' ⟨rfl, rfl⟩
      go_wp2_with fail
      refine (example_c w).mono ?_
      rintro e w1 ⟨rfl, hw⟩
      go_wp2_with fail
      go_ret
      exact ⟨rfl, hw⟩
  · have hna := ia.lenI
    have hnb := ib.lenI
    go_enter Try.func10, Try.ntmps10
    go_wp2_with fail
    refine (few_f w hs hna hnb (by omega)).mono ?_
    rintro e w' ⟨rfl, rfl⟩
    go_wp2_with fail
    refine (example_c w).mono ?_
    rintro e w1 ⟨rfl, hw⟩
    go_wp2_with fail
    go_ret
    exact ⟨rfl, hw⟩

end Go.Proofs.Ytklohficlfnjfaa
