/-
  Walks: the examples of chapter 2.
-/
import Derived.Test.YtjdcolaefhheaaaKa
namespace Go.Proofs.Ytjdcolaefhheaaa
set_option linter.unusedVariables false
set_option linter.unusedSimpArgs false
open Go.RowKit
attribute [local go_sem ↓] Go.wp_at_zero Go.wp_at_succ

theorem ii_one {w : World} {s : Bool} {A : Option Addr} {n c : Nat} {l : List Nat} {x : Int} {K d : Nat} (N : Norm l) (h : II w s A n c l x K) (h0 : d ≠ 0) (hd : d < 4294967296) (hx : x.natAbs = d) : l = [d] ∧ n = 1 := by
  have h1 : l = [d] := N.unique (Norm.one h0 hd) (by rw [← h.abs, hx, val_one])
  refine ⟨h1, ?_⟩
  rw [← h.inn.len, h1]; rfl
theorem ii_lit (w : World) (s : Bool) (d : Nat) (hd : d < 4294967296) {X : Int} (hX : X = (d : Int)) {K : Nat} (hK : 1 ≤ K) : II (w.alloc (.cells #[.int .u32 X] 53)) s (some ⟨w.heap.size, 0, none⟩) 1 1 [d] (zi s d) K :=
  ⟨in_lit w [d] 1 #[.int .u32 X] (by rw [hX]; rfl) (Dig.one hd) rfl (by omega), by rw [val_one], hK⟩

set_option maxRecDepth 100000 in
set_option maxHeartbeats 8000000 in
theorem iexample_c (w : World) : Calls Try.prog 41 #[] w (RetV w (.bool true)) := by
  go_enter Try.func41, Try.ntmps41
  have FR := hide (Fr.refl w)
  have HZ : w.heap.size + 0 ≤ w.heap.size := by omega
  go_wp2_with fail
  refine (fromInt_v (K := 2) (-7) _ (by omega) (by omega) (by omega)).mono ?_
  rintro e w1 ⟨Aa, na, ca, la, rfl, Na, Oa, ia, hw⟩
  replace Oa := Oa.base (B' := w.heap.size + 0) HZ
  replace FR := hide ((unhide FR).below hw)
  replace HZ := Nat.le_trans HZ hw.size
  clear hw
  go_wp2_with fail
  refine (fromInt_v (K := 2) (2) _ (by omega) (by omega) (by omega)).mono ?_
  rintro e w2 ⟨Ab, nb, cb, lb, rfl, Nb, Ob, ib, hw⟩
  replace Ob := Ob.base (B' := w.heap.size + 0) HZ
  replace FR := hide ((unhide FR).below hw)
  replace Oa := Oa.below hw
  replace ia := ia.below hw
  replace HZ := Nat.le_trans HZ hw.size
  clear hw
  go_wp2_with fail
  refine (idivmod_v _ ia ib (by omega)).mono ?_
  rintro e w3 ⟨Aq, nq, cq, lq, Ar, nr, cr, lr, rfl, Nq, Oq, iq, Nr, Or, ir, hw⟩
  rw [show decide (quoI (-7) 2 < 0) = true by decide, show decide (remI (-7) 2 < 0) = false by decide, show divEI 2 = 0 by decide]
  rw [show decide (quoI (-7) 2 < 0) = true by decide] at iq
  rw [show decide (remI (-7) 2 < 0) = false by decide] at ir
  replace Oq := Oq.base (B' := w.heap.size + 0) HZ
  replace Or := Or.base (B' := w.heap.size + 0) HZ
  replace FR := hide ((unhide FR).below hw)
  replace Oa := Oa.below hw
  replace ia := ia.below hw
  replace Ob := Ob.below hw
  replace ib := ib.below hw
  replace HZ := Nat.le_trans HZ hw.size
  clear hw
  obtain ⟨rfl, rfl⟩ := ii_one (d := 4) Nq iq (by omega) (by omega) (by decide)
  obtain ⟨rfl, rfl⟩ := ii_one (d := 1) Nr ir (by omega) (by omega) (by decide)
  clear Na Oa ia Nb Ob ib
  have kG := Blk.new w3 24 #[.bool true, .slice Aq 1 cq]
  have zG1 := HZ
  have hnew := below_new w3 (.cells #[.bool true, .slice Aq 1 cq] 24)
  replace FR := hide ((unhide FR).below hnew)
  replace Oq := Oq.below hnew
  replace iq := iq.below hnew
  replace Or := Or.below hnew
  replace ir := ir.below hnew
  replace HZ := Nat.le_trans HZ hnew.size
  have cG1_0 := kG.cell 0
  have cG1_1 := kG.cell 1
  clear hnew kG
  have kG := Blk.new (w3.alloc (.cells #[.bool true, .slice Aq 1 cq] 24)) 24 #[.bool false, .slice Ar 1 cr]
  have zG2 := HZ
  have hnew := below_new (w3.alloc (.cells #[.bool true, .slice Aq 1 cq] 24)) (.cells #[.bool false, .slice Ar 1 cr] 24)
  replace cG1_0 := keepc hnew cG1_0
  replace cG1_1 := keepc hnew cG1_1
  replace FR := hide ((unhide FR).below hnew)
  replace Oq := Oq.below hnew
  replace iq := iq.below hnew
  replace Or := Or.below hnew
  replace ir := ir.below hnew
  replace HZ := Nat.le_trans HZ hnew.size
  have cG2_0 := kG.cell 0
  have cG2_1 := kG.cell 1
  clear hnew kG
  go_wp2_with fail
  obtain ⟨w4, hn⟩ : ∃ w4, w4 = ((w3.alloc (.cells #[.bool true, .slice Aq 1 cq] 24)).alloc (.cells #[.bool false, .slice Ar 1 cr] 24)) := ⟨_, rfl⟩
  rw [← hn] at cG1_0 cG1_1 cG2_0 cG2_1 FR HZ Oq iq Or ir
  rw [← hn]
  clear hn
  obtain ⟨G1, hgG1⟩ : ∃ G1, G1 = w3.heap.size := ⟨_, rfl⟩
  rw [show ((w3.alloc (.cells #[.bool true, .slice Aq 1 cq] 24))).heap.size = w3.heap.size + 1 by simp] at cG2_0 cG2_1 zG2
  obtain ⟨G2, hgG2⟩ : ∃ G2, G2 = w3.heap.size + 1 := ⟨_, rfl⟩
  rw [← hgG2] at cG2_0 cG2_1 zG2
  rw [← hgG2]
  clear hgG2 zG2
  rw [← hgG1] at cG1_0 cG1_1 zG1
  rw [← hgG1]
  clear hgG1 zG1
  refine (fromInt_v (K := 2) (5) _ (by omega) (by omega) (by omega)).mono ?_
  rintro e w5 ⟨Aa, na, ca, la, rfl, Na, Oa, ia, hw⟩
  replace Oa := Oa.base (B' := w.heap.size + 0) HZ
  replace cG1_0 := keepc hw cG1_0
  replace cG1_1 := keepc hw cG1_1
  replace cG2_0 := keepc hw cG2_0
  replace cG2_1 := keepc hw cG2_1
  replace FR := hide ((unhide FR).below hw)
  replace Oq := Oq.below hw
  replace iq := iq.below hw
  replace Or := Or.below hw
  replace ir := ir.below hw
  replace HZ := Nat.le_trans HZ hw.size
  clear hw
  go_wp2_with fail
  refine (fromInt_v (K := 2) (2) _ (by omega) (by omega) (by omega)).mono ?_
  rintro e w6 ⟨Ab, nb, cb, lb, rfl, Nb, Ob, ib, hw⟩
  replace Ob := Ob.base (B' := w.heap.size + 0) HZ
  replace cG1_0 := keepc hw cG1_0
  replace cG1_1 := keepc hw cG1_1
  replace cG2_0 := keepc hw cG2_0
  replace cG2_1 := keepc hw cG2_1
  replace FR := hide ((unhide FR).below hw)
  replace Oq := Oq.below hw
  replace iq := iq.below hw
  replace Or := Or.below hw
  replace ir := ir.below hw
  replace Oa := Oa.below hw
  replace ia := ia.below hw
  replace HZ := Nat.le_trans HZ hw.size
  clear hw
  go_wp2_with fail
  refine (idivround_c _ ia ib (by omega)).mono ?_
  rintro e w7 ⟨Am, nm, cm, lm, rfl, Nm, Om, im, hw⟩
  rw [show decide (rndI (5) 2 < 0) = false by decide, show divEI 2 = 0 by decide]
  rw [show decide (rndI (5) 2 < 0) = false by decide] at im
  replace Om := Om.base (B' := w.heap.size + 0) HZ
  replace cG1_0 := keepc hw cG1_0
  replace cG1_1 := keepc hw cG1_1
  replace cG2_0 := keepc hw cG2_0
  replace cG2_1 := keepc hw cG2_1
  replace FR := hide ((unhide FR).below hw)
  replace Oq := Oq.below hw
  replace iq := iq.below hw
  replace Or := Or.below hw
  replace ir := ir.below hw
  replace Oa := Oa.below hw
  replace ia := ia.below hw
  replace Ob := Ob.below hw
  replace ib := ib.below hw
  replace HZ := Nat.le_trans HZ hw.size
  clear hw
  clear Na Oa ia Nb Ob ib
  have kG := Blk.new w7 24 #[.bool false, .slice Am nm cm]
  have zG3 := HZ
  have hnew := below_new w7 (.cells #[.bool false, .slice Am nm cm] 24)
  replace cG1_0 := keepc hnew cG1_0
  replace cG1_1 := keepc hnew cG1_1
  replace cG2_0 := keepc hnew cG2_0
  replace cG2_1 := keepc hnew cG2_1
  replace FR := hide ((unhide FR).below hnew)
  replace Oq := Oq.below hnew
  replace iq := iq.below hnew
  replace Or := Or.below hnew
  replace ir := ir.below hnew
  replace Om := Om.below hnew
  replace im := im.below hnew
  replace HZ := Nat.le_trans HZ hnew.size
  have cG3_0 := kG.cell 0
  have cG3_1 := kG.cell 1
  clear hnew kG
  go_wp2_with fail
  obtain ⟨w8, hn⟩ : ∃ w8, w8 = (w7.alloc (.cells #[.bool false, .slice Am nm cm] 24)) := ⟨_, rfl⟩
  rw [← hn] at cG1_0 cG1_1 cG2_0 cG2_1 cG3_0 cG3_1 FR HZ Oq iq Or ir Om im
  rw [← hn]
  clear hn
  obtain ⟨G3, hgG3⟩ : ∃ G3, G3 = w7.heap.size := ⟨_, rfl⟩
  rw [← hgG3] at cG3_0 cG3_1 zG3
  rw [← hgG3]
  clear hgG3 zG3
  refine (fromInt_v (K := 2) (-5) _ (by omega) (by omega) (by omega)).mono ?_
  rintro e w9 ⟨Aa, na, ca, la, rfl, Na, Oa, ia, hw⟩
  replace Oa := Oa.base (B' := w.heap.size + 0) HZ
  replace cG1_0 := keepc hw cG1_0
  replace cG1_1 := keepc hw cG1_1
  replace cG2_0 := keepc hw cG2_0
  replace cG2_1 := keepc hw cG2_1
  replace cG3_0 := keepc hw cG3_0
  replace cG3_1 := keepc hw cG3_1
  replace FR := hide ((unhide FR).below hw)
  replace Oq := Oq.below hw
  replace iq := iq.below hw
  replace Or := Or.below hw
  replace ir := ir.below hw
  replace Om := Om.below hw
  replace im := im.below hw
  replace HZ := Nat.le_trans HZ hw.size
  clear hw
  go_wp2_with fail
  refine (fromInt_v (K := 2) (2) _ (by omega) (by omega) (by omega)).mono ?_
  rintro e w10 ⟨Ab, nb, cb, lb, rfl, Nb, Ob, ib, hw⟩
  replace Ob := Ob.base (B' := w.heap.size + 0) HZ
  replace cG1_0 := keepc hw cG1_0
  replace cG1_1 := keepc hw cG1_1
  replace cG2_0 := keepc hw cG2_0
  replace cG2_1 := keepc hw cG2_1
  replace cG3_0 := keepc hw cG3_0
  replace cG3_1 := keepc hw cG3_1
  replace FR := hide ((unhide FR).below hw)
  replace Oq := Oq.below hw
  replace iq := iq.below hw
  replace Or := Or.below hw
  replace ir := ir.below hw
  replace Om := Om.below hw
  replace im := im.below hw
  replace Oa := Oa.below hw
  replace ia := ia.below hw
  replace HZ := Nat.le_trans HZ hw.size
  clear hw
  go_wp2_with fail
  refine (idivround_c _ ia ib (by omega)).mono ?_
  rintro e w11 ⟨Au, nu, cu, lu, rfl, Nu, Ou, iu, hw⟩
  rw [show decide (rndI (-5) 2 < 0) = true by decide, show divEI 2 = 0 by decide]
  rw [show decide (rndI (-5) 2 < 0) = true by decide] at iu
  replace Ou := Ou.base (B' := w.heap.size + 0) HZ
  replace cG1_0 := keepc hw cG1_0
  replace cG1_1 := keepc hw cG1_1
  replace cG2_0 := keepc hw cG2_0
  replace cG2_1 := keepc hw cG2_1
  replace cG3_0 := keepc hw cG3_0
  replace cG3_1 := keepc hw cG3_1
  replace FR := hide ((unhide FR).below hw)
  replace Oq := Oq.below hw
  replace iq := iq.below hw
  replace Or := Or.below hw
  replace ir := ir.below hw
  replace Om := Om.below hw
  replace im := im.below hw
  replace Oa := Oa.below hw
  replace ia := ia.below hw
  replace Ob := Ob.below hw
  replace ib := ib.below hw
  replace HZ := Nat.le_trans HZ hw.size
  clear hw
  clear Na Oa ia Nb Ob ib
  have kG := Blk.new w11 24 #[.bool true, .slice Au nu cu]
  have zG4 := HZ
  have hnew := below_new w11 (.cells #[.bool true, .slice Au nu cu] 24)
  replace cG1_0 := keepc hnew cG1_0
  replace cG1_1 := keepc hnew cG1_1
  replace cG2_0 := keepc hnew cG2_0
  replace cG2_1 := keepc hnew cG2_1
  replace cG3_0 := keepc hnew cG3_0
  replace cG3_1 := keepc hnew cG3_1
  replace FR := hide ((unhide FR).below hnew)
  replace Oq := Oq.below hnew
  replace iq := iq.below hnew
  replace Or := Or.below hnew
  replace ir := ir.below hnew
  replace Om := Om.below hnew
  replace im := im.below hnew
  replace Ou := Ou.below hnew
  replace iu := iu.below hnew
  replace HZ := Nat.le_trans HZ hnew.size
  have cG4_0 := kG.cell 0
  have cG4_1 := kG.cell 1
  clear hnew kG
  go_wp2_with fail
  obtain ⟨w12, hn⟩ : ∃ w12, w12 = (w11.alloc (.cells #[.bool true, .slice Au nu cu] 24)) := ⟨_, rfl⟩
  rw [← hn] at cG1_0 cG1_1 cG2_0 cG2_1 cG3_0 cG3_1 cG4_0 cG4_1 FR HZ Oq iq Or ir Om im Ou iu
  rw [← hn]
  clear hn
  obtain ⟨G4, hgG4⟩ : ∃ G4, G4 = w11.heap.size := ⟨_, rfl⟩
  rw [← hgG4] at cG4_0 cG4_1 zG4
  rw [← hgG4]
  clear hgG4 zG4
  refine (fromInt_v (K := 2) (1) _ (by omega) (by omega) (by omega)).mono ?_
  rintro e w13 ⟨Aa, na, ca, la, rfl, Na, Oa, ia, hw⟩
  replace Oa := Oa.base (B' := w.heap.size + 0) HZ
  replace cG1_0 := keepc hw cG1_0
  replace cG1_1 := keepc hw cG1_1
  replace cG2_0 := keepc hw cG2_0
  replace cG2_1 := keepc hw cG2_1
  replace cG3_0 := keepc hw cG3_0
  replace cG3_1 := keepc hw cG3_1
  replace cG4_0 := keepc hw cG4_0
  replace cG4_1 := keepc hw cG4_1
  replace FR := hide ((unhide FR).below hw)
  replace Oq := Oq.below hw
  replace iq := iq.below hw
  replace Or := Or.below hw
  replace ir := ir.below hw
  replace Om := Om.below hw
  replace im := im.below hw
  replace Ou := Ou.below hw
  replace iu := iu.below hw
  replace HZ := Nat.le_trans HZ hw.size
  clear hw
  have ib := ii_lit (w13) true 0 (by omega) (X := 0) rfl (K := 1) (by omega)
  have hw := below_new (w13) (.cells #[.int .u32 0] 53)
  replace cG1_0 := keepc hw cG1_0
  replace cG1_1 := keepc hw cG1_1
  replace cG2_0 := keepc hw cG2_0
  replace cG2_1 := keepc hw cG2_1
  replace cG3_0 := keepc hw cG3_0
  replace cG3_1 := keepc hw cG3_1
  replace cG4_0 := keepc hw cG4_0
  replace cG4_1 := keepc hw cG4_1
  replace FR := hide ((unhide FR).below hw)
  replace Oq := Oq.below hw
  replace iq := iq.below hw
  replace Or := Or.below hw
  replace ir := ir.below hw
  replace Om := Om.below hw
  replace im := im.below hw
  replace Ou := Ou.below hw
  replace iu := iu.below hw
  replace Oa := Oa.below hw
  replace ia := ia.below hw
  replace HZ := Nat.le_trans HZ hw.size
  go_wp2_with fail
  clear hw
  obtain ⟨w14, hn⟩ : ∃ w14, w14 = (w13).alloc (.cells #[.int .u32 0] 53) := ⟨_, rfl⟩
  rw [← hn] at cG1_0 cG1_1 cG2_0 cG2_1 cG3_0 cG3_1 cG4_0 cG4_1 FR HZ Oq iq Or ir Om im Ou iu Oa ia ib
  rw [← hn]
  clear hn
  obtain ⟨L0, hg⟩ : ∃ L0, L0 = (w13).heap.size := ⟨_, rfl⟩
  rw [← hg] at ib
  rw [show (w13).heap.size = L0 from hg.symm]
  clear hg
  refine (idivmod_v _ ia ib (by omega)).mono ?_
  rintro e w15 ⟨Ac, nc, cc, lc, Ad, nd, cd, ld, rfl, Nc, Oc, ic, Nd, Od, id, hw⟩
  rw [show decide (quoI 1 (zi true 0) < 0) = false by decide, show decide (remI 1 (zi true 0) < 0) = false by decide, show divEI (zi true 0) = 9 by decide]
  replace cG1_0 := keepc hw cG1_0
  replace cG1_1 := keepc hw cG1_1
  replace cG2_0 := keepc hw cG2_0
  replace cG2_1 := keepc hw cG2_1
  replace cG3_0 := keepc hw cG3_0
  replace cG3_1 := keepc hw cG3_1
  replace cG4_0 := keepc hw cG4_0
  replace cG4_1 := keepc hw cG4_1
  replace FR := hide ((unhide FR).below hw)
  replace Oq := Oq.below hw
  replace iq := iq.below hw
  replace Or := Or.below hw
  replace ir := ir.below hw
  replace Om := Om.below hw
  replace im := im.below hw
  replace Ou := Ou.below hw
  replace iu := iu.below hw
  replace Oa := Oa.below hw
  replace ia := ia.below hw
  replace HZ := Nat.le_trans HZ hw.size
  clear hw ib Nc Oc ic Nd Od id
  clear Na Oa ia
  have kG := Blk.new w15 24 #[.bool false, .slice Ac nc cc]
  have zG5 := HZ
  have hnew := below_new w15 (.cells #[.bool false, .slice Ac nc cc] 24)
  replace cG1_0 := keepc hnew cG1_0
  replace cG1_1 := keepc hnew cG1_1
  replace cG2_0 := keepc hnew cG2_0
  replace cG2_1 := keepc hnew cG2_1
  replace cG3_0 := keepc hnew cG3_0
  replace cG3_1 := keepc hnew cG3_1
  replace cG4_0 := keepc hnew cG4_0
  replace cG4_1 := keepc hnew cG4_1
  replace FR := hide ((unhide FR).below hnew)
  replace Oq := Oq.below hnew
  replace iq := iq.below hnew
  replace Or := Or.below hnew
  replace ir := ir.below hnew
  replace Om := Om.below hnew
  replace im := im.below hnew
  replace Ou := Ou.below hnew
  replace iu := iu.below hnew
  replace HZ := Nat.le_trans HZ hnew.size
  have cG5_0 := kG.cell 0
  have cG5_1 := kG.cell 1
  clear hnew kG
  have kG := Blk.new (w15.alloc (.cells #[.bool false, .slice Ac nc cc] 24)) 24 #[.bool false, .slice Ad nd cd]
  have zG6 := HZ
  have hnew := below_new (w15.alloc (.cells #[.bool false, .slice Ac nc cc] 24)) (.cells #[.bool false, .slice Ad nd cd] 24)
  replace cG1_0 := keepc hnew cG1_0
  replace cG1_1 := keepc hnew cG1_1
  replace cG2_0 := keepc hnew cG2_0
  replace cG2_1 := keepc hnew cG2_1
  replace cG3_0 := keepc hnew cG3_0
  replace cG3_1 := keepc hnew cG3_1
  replace cG4_0 := keepc hnew cG4_0
  replace cG4_1 := keepc hnew cG4_1
  replace cG5_0 := keepc hnew cG5_0
  replace cG5_1 := keepc hnew cG5_1
  replace FR := hide ((unhide FR).below hnew)
  replace Oq := Oq.below hnew
  replace iq := iq.below hnew
  replace Or := Or.below hnew
  replace ir := ir.below hnew
  replace Om := Om.below hnew
  replace im := im.below hnew
  replace Ou := Ou.below hnew
  replace iu := iu.below hnew
  replace HZ := Nat.le_trans HZ hnew.size
  have cG6_0 := kG.cell 0
  have cG6_1 := kG.cell 1
  clear hnew kG
  go_wp2_with fail
  obtain ⟨w16, hn⟩ : ∃ w16, w16 = ((w15.alloc (.cells #[.bool false, .slice Ac nc cc] 24)).alloc (.cells #[.bool false, .slice Ad nd cd] 24)) := ⟨_, rfl⟩
  rw [← hn] at cG1_0 cG1_1 cG2_0 cG2_1 cG3_0 cG3_1 cG4_0 cG4_1 cG5_0 cG5_1 cG6_0 cG6_1 FR HZ Oq iq Or ir Om im Ou iu
  rw [← hn]
  clear hn
  obtain ⟨G5, hgG5⟩ : ∃ G5, G5 = w15.heap.size := ⟨_, rfl⟩
  rw [show ((w15.alloc (.cells #[.bool false, .slice Ac nc cc] 24))).heap.size = w15.heap.size + 1 by simp] at cG6_0 cG6_1 zG6
  obtain ⟨G6, hgG6⟩ : ∃ G6, G6 = w15.heap.size + 1 := ⟨_, rfl⟩
  rw [← hgG6] at cG6_0 cG6_1 zG6
  rw [← hgG6]
  clear hgG6 zG6
  rw [← hgG5] at cG5_0 cG5_1 zG5
  rw [← hgG5]
  clear hgG5 zG5
  refine (iparse_c ⟨#[45, 48]⟩ (by decide) _).mono ?_
  rintro e w17 ⟨Ah, nh, ch, lh, rfl, Nh, Oh, ih, hw⟩
  have eV : parseIV (ByteArray.mk #[45, 48]).data.toList = 0 := by decide
  have eE : parseIE (ByteArray.mk #[45, 48]).data.toList = 3 := by decide
  rw [eV] at ih
  rw [eV, eE]
  clear eV eE
  rw [show decide ((0 : Int) < 0) = false by decide] at ih ⊢
  replace Oh := Oh.base (B' := w.heap.size + 0) HZ
  replace cG1_0 := keepc hw cG1_0
  replace cG1_1 := keepc hw cG1_1
  replace cG2_0 := keepc hw cG2_0
  replace cG2_1 := keepc hw cG2_1
  replace cG3_0 := keepc hw cG3_0
  replace cG3_1 := keepc hw cG3_1
  replace cG4_0 := keepc hw cG4_0
  replace cG4_1 := keepc hw cG4_1
  replace cG5_0 := keepc hw cG5_0
  replace cG5_1 := keepc hw cG5_1
  replace cG6_0 := keepc hw cG6_0
  replace cG6_1 := keepc hw cG6_1
  replace FR := hide ((unhide FR).below hw)
  replace Oq := Oq.below hw
  replace iq := iq.below hw
  replace Or := Or.below hw
  replace ir := ir.below hw
  replace Om := Om.below hw
  replace im := im.below hw
  replace Ou := Ou.below hw
  replace iu := iu.below hw
  replace HZ := Nat.le_trans HZ hw.size
  clear hw
  clear Nh Oh ih
  have kG := Blk.new w17 24 #[.bool false, .slice Ah nh ch]
  have zG7 := HZ
  have hnew := below_new w17 (.cells #[.bool false, .slice Ah nh ch] 24)
  replace cG1_0 := keepc hnew cG1_0
  replace cG1_1 := keepc hnew cG1_1
  replace cG2_0 := keepc hnew cG2_0
  replace cG2_1 := keepc hnew cG2_1
  replace cG3_0 := keepc hnew cG3_0
  replace cG3_1 := keepc hnew cG3_1
  replace cG4_0 := keepc hnew cG4_0
  replace cG4_1 := keepc hnew cG4_1
  replace cG5_0 := keepc hnew cG5_0
  replace cG5_1 := keepc hnew cG5_1
  replace cG6_0 := keepc hnew cG6_0
  replace cG6_1 := keepc hnew cG6_1
  replace FR := hide ((unhide FR).below hnew)
  replace Oq := Oq.below hnew
  replace iq := iq.below hnew
  replace Or := Or.below hnew
  replace ir := ir.below hnew
  replace Om := Om.below hnew
  replace im := im.below hnew
  replace Ou := Ou.below hnew
  replace iu := iu.below hnew
  replace HZ := Nat.le_trans HZ hnew.size
  have cG7_0 := kG.cell 0
  have cG7_1 := kG.cell 1
  clear hnew kG
  go_wp2_with fail
  obtain ⟨w18, hn⟩ : ∃ w18, w18 = (w17.alloc (.cells #[.bool false, .slice Ah nh ch] 24)) := ⟨_, rfl⟩
  rw [← hn] at cG1_0 cG1_1 cG2_0 cG2_1 cG3_0 cG3_1 cG4_0 cG4_1 cG5_0 cG5_1 cG6_0 cG6_1 cG7_0 cG7_1 FR HZ Oq iq Or ir Om im Ou iu
  rw [← hn]
  clear hn
  obtain ⟨G7, hgG7⟩ : ∃ G7, G7 = w17.heap.size := ⟨_, rfl⟩
  rw [← hgG7] at cG7_0 cG7_1 zG7
  rw [← hgG7]
  clear hgG7 zG7
  refine (iparse_c ⟨#[45, 49, 50]⟩ (by decide) _).mono ?_
  rintro e w19 ⟨Ap, np, cp, lp, rfl, Np, Op, ip, hw⟩
  have eV : parseIV (ByteArray.mk #[45, 49, 50]).data.toList = -12 := by decide
  have eE : parseIE (ByteArray.mk #[45, 49, 50]).data.toList = 0 := by decide
  rw [eV] at ip
  rw [eV, eE]
  clear eV eE
  rw [show decide ((-12 : Int) < 0) = true by decide] at ip ⊢
  replace Op := Op.base (B' := w.heap.size + 0) HZ
  replace cG1_0 := keepc hw cG1_0
  replace cG1_1 := keepc hw cG1_1
  replace cG2_0 := keepc hw cG2_0
  replace cG2_1 := keepc hw cG2_1
  replace cG3_0 := keepc hw cG3_0
  replace cG3_1 := keepc hw cG3_1
  replace cG4_0 := keepc hw cG4_0
  replace cG4_1 := keepc hw cG4_1
  replace cG5_0 := keepc hw cG5_0
  replace cG5_1 := keepc hw cG5_1
  replace cG6_0 := keepc hw cG6_0
  replace cG6_1 := keepc hw cG6_1
  replace cG7_0 := keepc hw cG7_0
  replace cG7_1 := keepc hw cG7_1
  replace FR := hide ((unhide FR).below hw)
  replace Oq := Oq.below hw
  replace iq := iq.below hw
  replace Or := Or.below hw
  replace ir := ir.below hw
  replace Om := Om.below hw
  replace im := im.below hw
  replace Ou := Ou.below hw
  replace iu := iu.below hw
  replace HZ := Nat.le_trans HZ hw.size
  clear hw
  have kG := Blk.new w19 24 #[.bool true, .slice Ap np cp]
  have zG8 := HZ
  have hnew := below_new w19 (.cells #[.bool true, .slice Ap np cp] 24)
  replace cG1_0 := keepc hnew cG1_0
  replace cG1_1 := keepc hnew cG1_1
  replace cG2_0 := keepc hnew cG2_0
  replace cG2_1 := keepc hnew cG2_1
  replace cG3_0 := keepc hnew cG3_0
  replace cG3_1 := keepc hnew cG3_1
  replace cG4_0 := keepc hnew cG4_0
  replace cG4_1 := keepc hnew cG4_1
  replace cG5_0 := keepc hnew cG5_0
  replace cG5_1 := keepc hnew cG5_1
  replace cG6_0 := keepc hnew cG6_0
  replace cG6_1 := keepc hnew cG6_1
  replace cG7_0 := keepc hnew cG7_0
  replace cG7_1 := keepc hnew cG7_1
  replace FR := hide ((unhide FR).below hnew)
  replace Oq := Oq.below hnew
  replace iq := iq.below hnew
  replace Or := Or.below hnew
  replace ir := ir.below hnew
  replace Om := Om.below hnew
  replace im := im.below hnew
  replace Ou := Ou.below hnew
  replace iu := iu.below hnew
  replace Op := Op.below hnew
  replace ip := ip.below hnew
  replace HZ := Nat.le_trans HZ hnew.size
  have cG8_0 := kG.cell 0
  have cG8_1 := kG.cell 1
  clear hnew kG
  go_wp2_with fail
  obtain ⟨w20, hn⟩ : ∃ w20, w20 = (w19.alloc (.cells #[.bool true, .slice Ap np cp] 24)) := ⟨_, rfl⟩
  rw [← hn] at cG1_0 cG1_1 cG2_0 cG2_1 cG3_0 cG3_1 cG4_0 cG4_1 cG5_0 cG5_1 cG6_0 cG6_1 cG7_0 cG7_1 cG8_0 cG8_1 FR HZ Oq iq Or ir Om im Ou iu Op ip
  rw [← hn]
  clear hn
  obtain ⟨G8, hgG8⟩ : ∃ G8, G8 = w19.heap.size := ⟨_, rfl⟩
  rw [← hgG8] at cG8_0 cG8_1 zG8
  rw [← hgG8]
  clear hgG8 zG8
  clear cG5_0 cG5_1 cG6_0 cG6_1 cG7_0 cG7_1
  have hS := And.intro cG1_0 (And.intro cG1_1 (And.intro cG2_0 (And.intro cG2_1 (And.intro cG3_0 (And.intro cG3_1 (And.intro cG4_0 (And.intro cG4_1 (And.intro cG8_0 (And.intro cG8_1 (FR))))))))))
  clear cG1_0 cG1_1 cG2_0 cG2_1 cG3_0 cG3_1 cG4_0 cG4_1 cG8_0 cG8_1 FR
  refine wp_region_noPanic ?_
  refine wp_region_WL (S := fun w' => w'.cell? ⟨G1, 0, none⟩ = some (.bool true) ∧ w'.cell? ⟨G1, 1, none⟩ = some (.slice Aq 1 cq) ∧ w'.cell? ⟨G2, 0, none⟩ = some (.bool false) ∧ w'.cell? ⟨G2, 1, none⟩ = some (.slice Ar 1 cr) ∧ w'.cell? ⟨G3, 0, none⟩ = some (.bool false) ∧ w'.cell? ⟨G3, 1, none⟩ = some (.slice Am nm cm) ∧ w'.cell? ⟨G4, 0, none⟩ = some (.bool true) ∧ w'.cell? ⟨G4, 1, none⟩ = some (.slice Au nu cu) ∧ w'.cell? ⟨G8, 0, none⟩ = some (.bool true) ∧ w'.cell? ⟨G8, 1, none⟩ = some (.slice Ap np cp) ∧ Hid (Fr w [] w')) (T := fun i => false) 51 #[false, false, false, false, false, false, false, false, false, false, false, false, false, false, false, false, false, false, false, false, false, false, false, false, false, false, false, false, false, false, false, false, false, false, false, false, false, false, false, false, false, false, false, false, false, false, false, false, false, false, false] rfl rfl (by kernel_rfl) (drew10 hS) (fun hV0 => ?_)
  clear hS
  replace Oq := Oq.drew
  replace iq := iq.drew
  replace Or := Or.drew
  replace ir := ir.drew
  replace Om := Om.drew
  replace im := im.drew
  replace Ou := Ou.drew
  replace iu := iu.drew
  replace Op := Op.drew
  replace ip := ip.drew
  replace HZ : w.heap.size + 0 ≤ w20.drew.heap.size := HZ
  obtain ⟨w21, hn⟩ : ∃ w21, w21 = w20.drew := ⟨_, rfl⟩
  rw [← hn] at hV0 HZ Oq iq Or ir Om im Ou iu Op ip
  rw [← hn]
  clear hn
  refine wpAnyW_takeL (i := 0) (v := ?_) (L := #[true, false, false, false, false, false, false, false, false, false, false, false, false, false, false, false, false, false, false, false, false, false, false, false, false, false, false, false, false, false, false, false, false, false, false, false, false, false, false, false, false, false, false, false, false, false, false, false, false, false, false]) (some 50) rfl (by kernel_rfl) (by kernel_rfl) (by kernel_rfl) (by kernel_rfl) (by kernel_rfl) (by kernel_rfl) (fun _ _ _ h => h) (by kernel_rfl) (by assumption) (by kernel_rfl) ?_ ?_
  rotate_left
  · (intro W1 hSw; (try dsimp only at hSw); go_simp; try with_reducible rfl)
  try simp only [Act.put, List.setIfInBounds_toArray, List.set_cons_zero, List.set_cons_succ]
  refine wpAnyW_one (i := 1) (L := #[true, true, false, false, false, false, false, false, false, false, false, false, false, false, false, false, false, false, false, false, false, false, false, false, false, false, false, false, false, false, false, false, false, false, false, false, false, false, false, false, false, false, false, false, false, false, false, false, false, false, false]) (by kernel_rfl) rfl rfl (by kernel_rfl) (by kernel_rfl) (fun K hK => ?_)
  go_simp
  have ix := ii_lit (w21) true 4 (by omega) (X := 4) rfl (K := 1) (by omega)
  have hw := below_new (w21) (.cells #[.int .u32 4] 53)
  replace Oq := Oq.below hw
  replace iq := iq.below hw
  replace Or := Or.below hw
  replace ir := ir.below hw
  replace Om := Om.below hw
  replace im := im.below hw
  replace Ou := Ou.below hw
  replace iu := iu.below hw
  replace Op := Op.below hw
  replace ip := ip.below hw
  replace HZ := Nat.le_trans HZ hw.size
  refine hK.out _ _ (keep10 (by assumption) hw) (fun hV22 => ?_)
  clear hK K
  try simp only [Act.put, List.setIfInBounds_toArray, List.set_cons_zero, List.set_cons_succ]
  clear hw
  obtain ⟨w23, hn⟩ : ∃ w23, w23 = (w21).alloc (.cells #[.int .u32 4] 53) := ⟨_, rfl⟩
  rw [← hn] at HZ Oq iq Or ir Om im Ou iu Op ip ix hV22
  rw [← hn]
  clear hn
  obtain ⟨L1, hg⟩ : ∃ L1, L1 = (w21).heap.size := ⟨_, rfl⟩
  rw [← hg] at ix
  try rw [← hg]
  clear hg
  refine wpAnyW_takeL (i := 2) (v := ?_) (L := #[true, true, true, false, false, false, false, false, false, false, false, false, false, false, false, false, false, false, false, false, false, false, false, false, false, false, false, false, false, false, false, false, false, false, false, false, false, false, false, false, false, false, false, false, false, false, false, false, false, false, false]) (some 52) rfl (by kernel_rfl) (by kernel_rfl) (by kernel_rfl) (by kernel_rfl) (by kernel_rfl) (by kernel_rfl) (fun _ _ _ h => h) (by kernel_rfl) (by assumption) (by kernel_rfl) ?_ ?_
  rotate_left
  · (intro W1 hSw; (try dsimp only at hSw); go_simp; try with_reducible rfl)
  try simp only [Act.put, List.setIfInBounds_toArray, List.set_cons_zero, List.set_cons_succ]
  refine wpAnyW_one (i := 3) (L := #[true, true, true, true, false, false, false, false, false, false, false, false, false, false, false, false, false, false, false, false, false, false, false, false, false, false, false, false, false, false, false, false, false, false, false, false, false, false, false, false, false, false, false, false, false, false, false, false, false, false, false]) (by kernel_rfl) rfl rfl (by kernel_rfl) (by kernel_rfl) (fun K hK => ?_)
  go_simp
  refine (isame_t _ iq.inn ix.inn).mono ?_
  rintro e w24 ⟨rfl, hw⟩
  replace Oq := Oq.below hw
  replace iq := iq.below hw
  replace Or := Or.below hw
  replace ir := ir.below hw
  replace Om := Om.below hw
  replace im := im.below hw
  replace Ou := Ou.below hw
  replace iu := iu.below hw
  replace Op := Op.below hw
  replace ip := ip.below hw
  replace HZ := Nat.le_trans HZ hw.size
  refine hK.out _ _ (keep10 (by assumption) hw) (fun hV24 => ?_)
  clear hK K
  try simp only [Act.put, List.setIfInBounds_toArray, List.set_cons_zero, List.set_cons_succ]
  clear hw
  clear ix
  refine wpAnyW_takeL (i := 4) (v := ?_) (L := #[true, true, true, true, true, false, false, false, false, false, false, false, false, false, false, false, false, false, false, false, false, false, false, false, false, false, false, false, false, false, false, false, false, false, false, false, false, false, false, false, false, false, false, false, false, false, false, false, false, false, false]) (some 54) rfl (by kernel_rfl) (by kernel_rfl) (by kernel_rfl) (by kernel_rfl) (by kernel_rfl) (by kernel_rfl) (fun _ _ _ h => h) (by kernel_rfl) (by assumption) (by kernel_rfl) ?_ ?_
  rotate_left
  · (intro W1 hSw; (try dsimp only at hSw); go_simp; try with_reducible rfl)
  try simp only [Act.put, List.setIfInBounds_toArray, List.set_cons_zero, List.set_cons_succ]
  refine wpAnyW_takeL (i := 5) (v := ?_) (L := #[true, true, true, true, true, true, false, false, false, false, false, false, false, false, false, false, false, false, false, false, false, false, false, false, false, false, false, false, false, false, false, false, false, false, false, false, false, false, false, false, false, false, false, false, false, false, false, false, false, false, false]) (some 55) rfl (by kernel_rfl) (by kernel_rfl) (by kernel_rfl) (by kernel_rfl) (by kernel_rfl) (by kernel_rfl) (fun _ _ _ h => h) (by kernel_rfl) (by assumption) (by kernel_rfl) ?_ ?_
  rotate_left
  · (intro W1 hSw; (try dsimp only at hSw); go_simp; try with_reducible rfl)
  try simp only [Act.put, List.setIfInBounds_toArray, List.set_cons_zero, List.set_cons_succ]
  refine wpAnyW_one (i := 6) (L := #[true, true, true, true, true, true, true, false, false, false, false, false, false, false, false, false, false, false, false, false, false, false, false, false, false, false, false, false, false, false, false, false, false, false, false, false, false, false, false, false, false, false, false, false, false, false, false, false, false, false, false]) (by kernel_rfl) rfl rfl (by kernel_rfl) (by kernel_rfl) (fun K hK => ?_)
  go_simp
  have iz := ii_lit (w24) false 1 (by omega) (X := 1) rfl (K := 1) (by omega)
  have hw := below_new (w24) (.cells #[.int .u32 1] 53)
  replace Oq := Oq.below hw
  replace iq := iq.below hw
  replace Or := Or.below hw
  replace ir := ir.below hw
  replace Om := Om.below hw
  replace im := im.below hw
  replace Ou := Ou.below hw
  replace iu := iu.below hw
  replace Op := Op.below hw
  replace ip := ip.below hw
  replace HZ := Nat.le_trans HZ hw.size
  refine hK.out _ _ (keep10 (by assumption) hw) (fun hV25 => ?_)
  clear hK K
  try simp only [Act.put, List.setIfInBounds_toArray, List.set_cons_zero, List.set_cons_succ]
  clear hw
  obtain ⟨w26, hn⟩ : ∃ w26, w26 = (w24).alloc (.cells #[.int .u32 1] 53) := ⟨_, rfl⟩
  rw [← hn] at HZ Oq iq Or ir Om im Ou iu Op ip iz hV25
  rw [← hn]
  clear hn
  obtain ⟨L2, hg⟩ : ∃ L2, L2 = (w24).heap.size := ⟨_, rfl⟩
  rw [← hg] at iz
  try rw [← hg]
  clear hg
  refine wpAnyW_takeL (i := 7) (v := ?_) (L := #[true, true, true, true, true, true, true, true, false, false, false, false, false, false, false, false, false, false, false, false, false, false, false, false, false, false, false, false, false, false, false, false, false, false, false, false, false, false, false, false, false, false, false, false, false, false, false, false, false, false, false]) (some 57) rfl (by kernel_rfl) (by kernel_rfl) (by kernel_rfl) (by kernel_rfl) (by kernel_rfl) (by kernel_rfl) (fun _ _ _ h => h) (by kernel_rfl) (by assumption) (by kernel_rfl) ?_ ?_
  rotate_left
  · (intro W1 hSw; (try dsimp only at hSw); go_simp; try with_reducible rfl)
  try simp only [Act.put, List.setIfInBounds_toArray, List.set_cons_zero, List.set_cons_succ]
  refine wpAnyW_one (i := 8) (L := #[true, true, true, true, true, true, true, true, true, false, false, false, false, false, false, false, false, false, false, false, false, false, false, false, false, false, false, false, false, false, false, false, false, false, false, false, false, false, false, false, false, false, false, false, false, false, false, false, false, false, false]) (by kernel_rfl) rfl rfl (by kernel_rfl) (by kernel_rfl) (fun K hK => ?_)
  go_simp
  refine (isame_t _ ir.inn iz.inn).mono ?_
  rintro e w27 ⟨rfl, hw⟩
  replace Oq := Oq.below hw
  replace iq := iq.below hw
  replace Or := Or.below hw
  replace ir := ir.below hw
  replace Om := Om.below hw
  replace im := im.below hw
  replace Ou := Ou.below hw
  replace iu := iu.below hw
  replace Op := Op.below hw
  replace ip := ip.below hw
  replace HZ := Nat.le_trans HZ hw.size
  refine hK.out _ _ (keep10 (by assumption) hw) (fun hV27 => ?_)
  clear hK K
  try simp only [Act.put, List.setIfInBounds_toArray, List.set_cons_zero, List.set_cons_succ]
  clear hw
  clear iz
  refine wpAnyW_takeL (i := 9) (v := ?_) (L := #[true, true, true, true, true, true, true, true, true, true, false, false, false, false, false, false, false, false, false, false, false, false, false, false, false, false, false, false, false, false, false, false, false, false, false, false, false, false, false, false, false, false, false, false, false, false, false, false, false, false, false]) (some 59) rfl (by kernel_rfl) (by kernel_rfl) (by kernel_rfl) (by kernel_rfl) (by kernel_rfl) (by kernel_rfl) (fun _ _ _ h => h) (by kernel_rfl) (by assumption) (by kernel_rfl) ?_ ?_
  rotate_left
  · (intro W1 hSw; (try dsimp only at hSw); go_simp; try with_reducible rfl)
  try simp only [Act.put, List.setIfInBounds_toArray, List.set_cons_zero, List.set_cons_succ]
  refine wpAnyW_takeL (i := 10) (v := ?_) (L := #[true, true, true, true, true, true, true, true, true, true, true, false, false, false, false, false, false, false, false, false, false, false, false, false, false, false, false, false, false, false, false, false, false, false, false, false, false, false, false, false, false, false, false, false, false, false, false, false, false, false, false]) (some 60) rfl (by kernel_rfl) (by kernel_rfl) (by kernel_rfl) (by kernel_rfl) (by kernel_rfl) (by kernel_rfl) (fun _ _ _ h => h) (by kernel_rfl) (by assumption) (by kernel_rfl) ?_ ?_
  rotate_left
  · (intro W1 hSw; (try dsimp only at hSw); go_simp; try with_reducible rfl)
  try simp only [Act.put, List.setIfInBounds_toArray, List.set_cons_zero, List.set_cons_succ]
  refine wpAnyW_takeL (i := 11) (v := ?_) (L := #[true, true, true, true, true, true, true, true, true, true, true, true, false, false, false, false, false, false, false, false, false, false, false, false, false, false, false, false, false, false, false, false, false, false, false, false, false, false, false, false, false, false, false, false, false, false, false, false, false, false, false]) (some 61) rfl (by kernel_rfl) (by kernel_rfl) (by kernel_rfl) (by kernel_rfl) (by kernel_rfl) (by kernel_rfl) (fun _ _ _ h => h) (by kernel_rfl) (by assumption) (by kernel_rfl) ?_ ?_
  rotate_left
  · (intro W1 hSw; (try dsimp only at hSw); go_simp; try with_reducible rfl)
  try simp only [Act.put, List.setIfInBounds_toArray, List.set_cons_zero, List.set_cons_succ]
  refine wpAnyW_takeL (i := 12) (v := ?_) (L := #[true, true, true, true, true, true, true, true, true, true, true, true, true, false, false, false, false, false, false, false, false, false, false, false, false, false, false, false, false, false, false, false, false, false, false, false, false, false, false, false, false, false, false, false, false, false, false, false, false, false, false]) (some 62) rfl (by kernel_rfl) (by kernel_rfl) (by kernel_rfl) (by kernel_rfl) (by kernel_rfl) (by kernel_rfl) (fun _ _ _ h => h) (by kernel_rfl) (by assumption) (by kernel_rfl) ?_ ?_
  rotate_left
  · (intro W1 hSw; (try dsimp only at hSw); go_simp; try with_reducible rfl)
  try simp only [Act.put, List.setIfInBounds_toArray, List.set_cons_zero, List.set_cons_succ]
  refine wpAnyW_takeL (i := 13) (v := ?_) (L := #[true, true, true, true, true, true, true, true, true, true, true, true, true, true, false, false, false, false, false, false, false, false, false, false, false, false, false, false, false, false, false, false, false, false, false, false, false, false, false, false, false, false, false, false, false, false, false, false, false, false, false]) (some 63) rfl (by kernel_rfl) (by kernel_rfl) (by kernel_rfl) (by kernel_rfl) (by kernel_rfl) (by kernel_rfl) (fun _ _ _ h => h) (by kernel_rfl) (by assumption) (by kernel_rfl) ?_ ?_
  rotate_left
  · (intro W1 hSw; (try dsimp only at hSw); go_simp; try with_reducible rfl)
  try simp only [Act.put, List.setIfInBounds_toArray, List.set_cons_zero, List.set_cons_succ]
  refine wpAnyW_takeL (i := 14) (v := ?_) (L := #[true, true, true, true, true, true, true, true, true, true, true, true, true, true, true, false, false, false, false, false, false, false, false, false, false, false, false, false, false, false, false, false, false, false, false, false, false, false, false, false, false, false, false, false, false, false, false, false, false, false, false]) (some 64) rfl (by kernel_rfl) (by kernel_rfl) (by kernel_rfl) (by kernel_rfl) (by kernel_rfl) (by kernel_rfl) (fun _ _ _ h => h) (by kernel_rfl) (by assumption) (by kernel_rfl) ?_ ?_
  rotate_left
  · (intro W1 hSw; (try dsimp only at hSw); go_simp; try with_reducible rfl)
  try simp only [Act.put, List.setIfInBounds_toArray, List.set_cons_zero, List.set_cons_succ]
  refine wpAnyW_takeL (i := 15) (v := ?_) (L := #[true, true, true, true, true, true, true, true, true, true, true, true, true, true, true, true, false, false, false, false, false, false, false, false, false, false, false, false, false, false, false, false, false, false, false, false, false, false, false, false, false, false, false, false, false, false, false, false, false, false, false]) (some 65) rfl (by kernel_rfl) (by kernel_rfl) (by kernel_rfl) (by kernel_rfl) (by kernel_rfl) (by kernel_rfl) (fun _ _ _ h => h) (by kernel_rfl) (by assumption) (by kernel_rfl) ?_ ?_
  rotate_left
  · (intro W1 hSw; (try dsimp only at hSw); go_simp; try with_reducible rfl)
  try simp only [Act.put, List.setIfInBounds_toArray, List.set_cons_zero, List.set_cons_succ]
  refine wpAnyW_one (i := 16) (L := #[true, true, true, true, true, true, true, true, true, true, true, true, true, true, true, true, true, false, false, false, false, false, false, false, false, false, false, false, false, false, false, false, false, false, false, false, false, false, false, false, false, false, false, false, false, false, false, false, false, false, false]) (by kernel_rfl) rfl rfl (by kernel_rfl) (by kernel_rfl) (fun K hK => ?_)
  go_simp
  refine (iformat_c _ im (by omega)).mono ?_
  rintro e w28 ⟨rfl, hw⟩
  rw [show fmtI (rndI 5 2) = [51] by decide]
  unfold strOf
  replace Oq := Oq.below hw
  replace iq := iq.below hw
  replace Or := Or.below hw
  replace ir := ir.below hw
  replace Om := Om.below hw
  replace im := im.below hw
  replace Ou := Ou.below hw
  replace iu := iu.below hw
  replace Op := Op.below hw
  replace ip := ip.below hw
  replace HZ := Nat.le_trans HZ hw.size
  refine hK.out _ _ (keep10 (by assumption) hw) (fun hV28 => ?_)
  clear hK K
  try simp only [Act.put, List.setIfInBounds_toArray, List.set_cons_zero, List.set_cons_succ]
  clear hw
  refine wpAnyW_takeL (i := 17) (v := ?_) (L := #[true, true, true, true, true, true, true, true, true, true, true, true, true, true, true, true, true, true, false, false, false, false, false, false, false, false, false, false, false, false, false, false, false, false, false, false, false, false, false, false, false, false, false, false, false, false, false, false, false, false, false]) (some 67) rfl (by kernel_rfl) (by kernel_rfl) (by kernel_rfl) (by kernel_rfl) (by kernel_rfl) (by kernel_rfl) (fun _ _ _ h => h) (by kernel_rfl) (by assumption) (by kernel_rfl) ?_ ?_
  rotate_left
  · (intro W1 hSw; (try dsimp only at hSw); go_simp; try with_reducible rfl)
  try simp only [Act.put, List.setIfInBounds_toArray, List.set_cons_zero, List.set_cons_succ]
  refine wpAnyW_takeL (i := 18) (v := ?_) (L := #[true, true, true, true, true, true, true, true, true, true, true, true, true, true, true, true, true, true, true, false, false, false, false, false, false, false, false, false, false, false, false, false, false, false, false, false, false, false, false, false, false, false, false, false, false, false, false, false, false, false, false]) (some 68) rfl (by kernel_rfl) (by kernel_rfl) (by kernel_rfl) (by kernel_rfl) (by kernel_rfl) (by kernel_rfl) (fun _ _ _ h => h) (by kernel_rfl) (by assumption) (by kernel_rfl) ?_ ?_
  rotate_left
  · (intro W1 hSw; (try dsimp only at hSw); go_simp; try with_reducible rfl)
  try simp only [Act.put, List.setIfInBounds_toArray, List.set_cons_zero, List.set_cons_succ]
  refine wpAnyW_takeL (i := 19) (v := ?_) (L := #[true, true, true, true, true, true, true, true, true, true, true, true, true, true, true, true, true, true, true, true, false, false, false, false, false, false, false, false, false, false, false, false, false, false, false, false, false, false, false, false, false, false, false, false, false, false, false, false, false, false, false]) (some 69) rfl (by kernel_rfl) (by kernel_rfl) (by kernel_rfl) (by kernel_rfl) (by kernel_rfl) (by kernel_rfl) (fun _ _ _ h => h) (by kernel_rfl) (by assumption) (by kernel_rfl) ?_ ?_
  rotate_left
  · (intro W1 hSw; (try dsimp only at hSw); go_simp; try with_reducible rfl)
  try simp only [Act.put, List.setIfInBounds_toArray, List.set_cons_zero, List.set_cons_succ]
  refine wpAnyW_takeL (i := 20) (v := ?_) (L := #[true, true, true, true, true, true, true, true, true, true, true, true, true, true, true, true, true, true, true, true, true, false, false, false, false, false, false, false, false, false, false, false, false, false, false, false, false, false, false, false, false, false, false, false, false, false, false, false, false, false, false]) (some 70) rfl (by kernel_rfl) (by kernel_rfl) (by kernel_rfl) (by kernel_rfl) (by kernel_rfl) (by kernel_rfl) (fun _ _ _ h => h) (by kernel_rfl) (by assumption) (by kernel_rfl) ?_ ?_
  rotate_left
  · (intro W1 hSw; (try dsimp only at hSw); go_simp; try with_reducible rfl)
  try simp only [Act.put, List.setIfInBounds_toArray, List.set_cons_zero, List.set_cons_succ]
  refine wpAnyW_takeL (i := 21) (v := ?_) (L := #[true, true, true, true, true, true, true, true, true, true, true, true, true, true, true, true, true, true, true, true, true, true, false, false, false, false, false, false, false, false, false, false, false, false, false, false, false, false, false, false, false, false, false, false, false, false, false, false, false, false, false]) (some 71) rfl (by kernel_rfl) (by kernel_rfl) (by kernel_rfl) (by kernel_rfl) (by kernel_rfl) (by kernel_rfl) (fun _ _ _ h => h) (by kernel_rfl) (by assumption) (by kernel_rfl) ?_ ?_
  rotate_left
  · (intro W1 hSw; (try dsimp only at hSw); go_simp; try with_reducible rfl)
  try simp only [Act.put, List.setIfInBounds_toArray, List.set_cons_zero, List.set_cons_succ]
  refine wpAnyW_takeL (i := 22) (v := ?_) (L := #[true, true, true, true, true, true, true, true, true, true, true, true, true, true, true, true, true, true, true, true, true, true, true, false, false, false, false, false, false, false, false, false, false, false, false, false, false, false, false, false, false, false, false, false, false, false, false, false, false, false, false]) (some 72) rfl (by kernel_rfl) (by kernel_rfl) (by kernel_rfl) (by kernel_rfl) (by kernel_rfl) (by kernel_rfl) (fun _ _ _ h => h) (by kernel_rfl) (by assumption) (by kernel_rfl) ?_ ?_
  rotate_left
  · (intro W1 hSw; (try dsimp only at hSw); go_simp; try with_reducible rfl)
  try simp only [Act.put, List.setIfInBounds_toArray, List.set_cons_zero, List.set_cons_succ]
  refine wpAnyW_takeL (i := 23) (v := ?_) (L := #[true, true, true, true, true, true, true, true, true, true, true, true, true, true, true, true, true, true, true, true, true, true, true, true, false, false, false, false, false, false, false, false, false, false, false, false, false, false, false, false, false, false, false, false, false, false, false, false, false, false, false]) (some 73) rfl (by kernel_rfl) (by kernel_rfl) (by kernel_rfl) (by kernel_rfl) (by kernel_rfl) (by kernel_rfl) (fun _ _ _ h => h) (by kernel_rfl) (by assumption) (by kernel_rfl) ?_ ?_
  rotate_left
  · (intro W1 hSw; (try dsimp only at hSw); go_simp; try with_reducible rfl)
  try simp only [Act.put, List.setIfInBounds_toArray, List.set_cons_zero, List.set_cons_succ]
  refine wpAnyW_takeL (i := 24) (v := ?_) (L := #[true, true, true, true, true, true, true, true, true, true, true, true, true, true, true, true, true, true, true, true, true, true, true, true, true, false, false, false, false, false, false, false, false, false, false, false, false, false, false, false, false, false, false, false, false, false, false, false, false, false, false]) (some 74) rfl (by kernel_rfl) (by kernel_rfl) (by kernel_rfl) (by kernel_rfl) (by kernel_rfl) (by kernel_rfl) (fun _ _ _ h => h) (by kernel_rfl) (by assumption) (by kernel_rfl) ?_ ?_
  rotate_left
  · (intro W1 hSw; (try dsimp only at hSw); go_simp; try with_reducible rfl)
  try simp only [Act.put, List.setIfInBounds_toArray, List.set_cons_zero, List.set_cons_succ]
  refine wpAnyW_one (i := 25) (L := #[true, true, true, true, true, true, true, true, true, true, true, true, true, true, true, true, true, true, true, true, true, true, true, true, true, true, false, false, false, false, false, false, false, false, false, false, false, false, false, false, false, false, false, false, false, false, false, false, false, false, false]) (by kernel_rfl) rfl rfl (by kernel_rfl) (by kernel_rfl) (fun K hK => ?_)
  go_simp
  refine (iformat_c _ iu (by omega)).mono ?_
  rintro e w29 ⟨rfl, hw⟩
  rw [show fmtI (rndI (-5) 2) = [45, 51] by decide]
  unfold strOf
  replace Oq := Oq.below hw
  replace iq := iq.below hw
  replace Or := Or.below hw
  replace ir := ir.below hw
  replace Om := Om.below hw
  replace im := im.below hw
  replace Ou := Ou.below hw
  replace iu := iu.below hw
  replace Op := Op.below hw
  replace ip := ip.below hw
  replace HZ := Nat.le_trans HZ hw.size
  refine hK.out _ _ (keep10 (by assumption) hw) (fun hV29 => ?_)
  clear hK K
  try simp only [Act.put, List.setIfInBounds_toArray, List.set_cons_zero, List.set_cons_succ]
  clear hw
  refine wpAnyW_takeL (i := 26) (v := ?_) (L := #[true, true, true, true, true, true, true, true, true, true, true, true, true, true, true, true, true, true, true, true, true, true, true, true, true, true, true, false, false, false, false, false, false, false, false, false, false, false, false, false, false, false, false, false, false, false, false, false, false, false, false]) (some 76) rfl (by kernel_rfl) (by kernel_rfl) (by kernel_rfl) (by kernel_rfl) (by kernel_rfl) (by kernel_rfl) (fun _ _ _ h => h) (by kernel_rfl) (by assumption) (by kernel_rfl) ?_ ?_
  rotate_left
  · (intro W1 hSw; (try dsimp only at hSw); go_simp; try with_reducible rfl)
  try simp only [Act.put, List.setIfInBounds_toArray, List.set_cons_zero, List.set_cons_succ]
  refine wpAnyW_takeL (i := 27) (v := ?_) (L := #[true, true, true, true, true, true, true, true, true, true, true, true, true, true, true, true, true, true, true, true, true, true, true, true, true, true, true, true, false, false, false, false, false, false, false, false, false, false, false, false, false, false, false, false, false, false, false, false, false, false, false]) (some 77) rfl (by kernel_rfl) (by kernel_rfl) (by kernel_rfl) (by kernel_rfl) (by kernel_rfl) (by kernel_rfl) (fun _ _ _ h => h) (by kernel_rfl) (by assumption) (by kernel_rfl) ?_ ?_
  rotate_left
  · (intro W1 hSw; (try dsimp only at hSw); go_simp; try with_reducible rfl)
  try simp only [Act.put, List.setIfInBounds_toArray, List.set_cons_zero, List.set_cons_succ]
  refine wpAnyW_takeL (i := 28) (v := ?_) (L := #[true, true, true, true, true, true, true, true, true, true, true, true, true, true, true, true, true, true, true, true, true, true, true, true, true, true, true, true, true, false, false, false, false, false, false, false, false, false, false, false, false, false, false, false, false, false, false, false, false, false, false]) (some 78) rfl (by kernel_rfl) (by kernel_rfl) (by kernel_rfl) (by kernel_rfl) (by kernel_rfl) (by kernel_rfl) (fun _ _ _ h => h) (by kernel_rfl) (by assumption) (by kernel_rfl) ?_ ?_
  rotate_left
  · (intro W1 hSw; (try dsimp only at hSw); go_simp; try with_reducible rfl)
  try simp only [Act.put, List.setIfInBounds_toArray, List.set_cons_zero, List.set_cons_succ]
  refine wpAnyW_takeL (i := 29) (v := ?_) (L := #[true, true, true, true, true, true, true, true, true, true, true, true, true, true, true, true, true, true, true, true, true, true, true, true, true, true, true, true, true, true, false, false, false, false, false, false, false, false, false, false, false, false, false, false, false, false, false, false, false, false, false]) (some 79) rfl (by kernel_rfl) (by kernel_rfl) (by kernel_rfl) (by kernel_rfl) (by kernel_rfl) (by kernel_rfl) (fun _ _ _ h => h) (by kernel_rfl) (by assumption) (by kernel_rfl) ?_ ?_
  rotate_left
  · (intro W1 hSw; (try dsimp only at hSw); go_simp; try with_reducible rfl)
  try simp only [Act.put, List.setIfInBounds_toArray, List.set_cons_zero, List.set_cons_succ]
  refine wpAnyW_takeL (i := 30) (v := ?_) (L := #[true, true, true, true, true, true, true, true, true, true, true, true, true, true, true, true, true, true, true, true, true, true, true, true, true, true, true, true, true, true, true, false, false, false, false, false, false, false, false, false, false, false, false, false, false, false, false, false, false, false, false]) (some 80) rfl (by kernel_rfl) (by kernel_rfl) (by kernel_rfl) (by kernel_rfl) (by kernel_rfl) (by kernel_rfl) (fun _ _ _ h => h) (by kernel_rfl) (by assumption) (by kernel_rfl) ?_ ?_
  rotate_left
  · (intro W1 hSw; (try dsimp only at hSw); go_simp; try with_reducible rfl)
  try simp only [Act.put, List.setIfInBounds_toArray, List.set_cons_zero, List.set_cons_succ]
  refine wpAnyW_takeL (i := 31) (v := ?_) (L := #[true, true, true, true, true, true, true, true, true, true, true, true, true, true, true, true, true, true, true, true, true, true, true, true, true, true, true, true, true, true, true, true, false, false, false, false, false, false, false, false, false, false, false, false, false, false, false, false, false, false, false]) (some 81) rfl (by kernel_rfl) (by kernel_rfl) (by kernel_rfl) (by kernel_rfl) (by kernel_rfl) (by kernel_rfl) (fun _ _ _ h => h) (by kernel_rfl) (by assumption) (by kernel_rfl) ?_ ?_
  rotate_left
  · (intro W1 hSw; (try dsimp only at hSw); go_simp; try with_reducible rfl)
  try simp only [Act.put, List.setIfInBounds_toArray, List.set_cons_zero, List.set_cons_succ]
  refine wpAnyW_takeL (i := 32) (v := ?_) (L := #[true, true, true, true, true, true, true, true, true, true, true, true, true, true, true, true, true, true, true, true, true, true, true, true, true, true, true, true, true, true, true, true, true, false, false, false, false, false, false, false, false, false, false, false, false, false, false, false, false, false, false]) (some 82) rfl (by kernel_rfl) (by kernel_rfl) (by kernel_rfl) (by kernel_rfl) (by kernel_rfl) (by kernel_rfl) (fun _ _ _ h => h) (by kernel_rfl) (by assumption) (by kernel_rfl) ?_ ?_
  rotate_left
  · (intro W1 hSw; (try dsimp only at hSw); go_simp; try with_reducible rfl)
  try simp only [Act.put, List.setIfInBounds_toArray, List.set_cons_zero, List.set_cons_succ]
  refine wpAnyW_takeL (i := 33) (v := ?_) (L := #[true, true, true, true, true, true, true, true, true, true, true, true, true, true, true, true, true, true, true, true, true, true, true, true, true, true, true, true, true, true, true, true, true, true, false, false, false, false, false, false, false, false, false, false, false, false, false, false, false, false, false]) (some 83) rfl (by kernel_rfl) (by kernel_rfl) (by kernel_rfl) (by kernel_rfl) (by kernel_rfl) (by kernel_rfl) (fun _ _ _ h => h) (by kernel_rfl) (by assumption) (by kernel_rfl) ?_ ?_
  rotate_left
  · (intro W1 hSw; (try dsimp only at hSw); go_simp; try with_reducible rfl)
  try simp only [Act.put, List.setIfInBounds_toArray, List.set_cons_zero, List.set_cons_succ]
  refine wpAnyW_takeL (i := 34) (v := ?_) (L := #[true, true, true, true, true, true, true, true, true, true, true, true, true, true, true, true, true, true, true, true, true, true, true, true, true, true, true, true, true, true, true, true, true, true, true, false, false, false, false, false, false, false, false, false, false, false, false, false, false, false, false]) (some 84) rfl (by kernel_rfl) (by kernel_rfl) (by kernel_rfl) (by kernel_rfl) (by kernel_rfl) (by kernel_rfl) (fun _ _ _ h => h) (by kernel_rfl) (by assumption) (by kernel_rfl) ?_ ?_
  rotate_left
  · (intro W1 hSw; (try dsimp only at hSw); go_simp; try with_reducible rfl)
  try simp only [Act.put, List.setIfInBounds_toArray, List.set_cons_zero, List.set_cons_succ]
  refine wpAnyW_takeL (i := 35) (v := ?_) (L := #[true, true, true, true, true, true, true, true, true, true, true, true, true, true, true, true, true, true, true, true, true, true, true, true, true, true, true, true, true, true, true, true, true, true, true, true, false, false, false, false, false, false, false, false, false, false, false, false, false, false, false]) (some 85) rfl (by kernel_rfl) (by kernel_rfl) (by kernel_rfl) (by kernel_rfl) (by kernel_rfl) (by kernel_rfl) (fun _ _ _ h => h) (by kernel_rfl) (by assumption) (by kernel_rfl) ?_ ?_
  rotate_left
  · (intro W1 hSw; (try dsimp only at hSw); go_simp; try with_reducible rfl)
  try simp only [Act.put, List.setIfInBounds_toArray, List.set_cons_zero, List.set_cons_succ]
  refine wpAnyW_takeL (i := 36) (v := ?_) (L := #[true, true, true, true, true, true, true, true, true, true, true, true, true, true, true, true, true, true, true, true, true, true, true, true, true, true, true, true, true, true, true, true, true, true, true, true, true, false, false, false, false, false, false, false, false, false, false, false, false, false, false]) (some 86) rfl (by kernel_rfl) (by kernel_rfl) (by kernel_rfl) (by kernel_rfl) (by kernel_rfl) (by kernel_rfl) (fun _ _ _ h => h) (by kernel_rfl) (by assumption) (by kernel_rfl) ?_ ?_
  rotate_left
  · (intro W1 hSw; (try dsimp only at hSw); go_simp; try with_reducible rfl)
  try simp only [Act.put, List.setIfInBounds_toArray, List.set_cons_zero, List.set_cons_succ]
  refine wpAnyW_takeL (i := 37) (v := ?_) (L := #[true, true, true, true, true, true, true, true, true, true, true, true, true, true, true, true, true, true, true, true, true, true, true, true, true, true, true, true, true, true, true, true, true, true, true, true, true, true, false, false, false, false, false, false, false, false, false, false, false, false, false]) (some 87) rfl (by kernel_rfl) (by kernel_rfl) (by kernel_rfl) (by kernel_rfl) (by kernel_rfl) (by kernel_rfl) (fun _ _ _ h => h) (by kernel_rfl) (by assumption) (by kernel_rfl) ?_ ?_
  rotate_left
  · (intro W1 hSw; (try dsimp only at hSw); go_simp; try with_reducible rfl)
  try simp only [Act.put, List.setIfInBounds_toArray, List.set_cons_zero, List.set_cons_succ]
  refine wpAnyW_takeL (i := 38) (v := ?_) (L := #[true, true, true, true, true, true, true, true, true, true, true, true, true, true, true, true, true, true, true, true, true, true, true, true, true, true, true, true, true, true, true, true, true, true, true, true, true, true, true, false, false, false, false, false, false, false, false, false, false, false, false]) (some 88) rfl (by kernel_rfl) (by kernel_rfl) (by kernel_rfl) (by kernel_rfl) (by kernel_rfl) (by kernel_rfl) (fun _ _ _ h => h) (by kernel_rfl) (by assumption) (by kernel_rfl) ?_ ?_
  rotate_left
  · (intro W1 hSw; (try dsimp only at hSw); go_simp; try with_reducible rfl)
  try simp only [Act.put, List.setIfInBounds_toArray, List.set_cons_zero, List.set_cons_succ]
  refine wpAnyW_takeL (i := 39) (v := ?_) (L := #[true, true, true, true, true, true, true, true, true, true, true, true, true, true, true, true, true, true, true, true, true, true, true, true, true, true, true, true, true, true, true, true, true, true, true, true, true, true, true, true, false, false, false, false, false, false, false, false, false, false, false]) (some 89) rfl (by kernel_rfl) (by kernel_rfl) (by kernel_rfl) (by kernel_rfl) (by kernel_rfl) (by kernel_rfl) (fun _ _ _ h => h) (by kernel_rfl) (by assumption) (by kernel_rfl) ?_ ?_
  rotate_left
  · (intro W1 hSw; (try dsimp only at hSw); go_simp; try with_reducible rfl)
  try simp only [Act.put, List.setIfInBounds_toArray, List.set_cons_zero, List.set_cons_succ]
  refine wpAnyW_takeL (i := 40) (v := ?_) (L := #[true, true, true, true, true, true, true, true, true, true, true, true, true, true, true, true, true, true, true, true, true, true, true, true, true, true, true, true, true, true, true, true, true, true, true, true, true, true, true, true, true, false, false, false, false, false, false, false, false, false, false]) (some 90) rfl (by kernel_rfl) (by kernel_rfl) (by kernel_rfl) (by kernel_rfl) (by kernel_rfl) (by kernel_rfl) (fun _ _ _ h => h) (by kernel_rfl) (by assumption) (by kernel_rfl) ?_ ?_
  rotate_left
  · (intro W1 hSw; (try dsimp only at hSw); go_simp; try with_reducible rfl)
  try simp only [Act.put, List.setIfInBounds_toArray, List.set_cons_zero, List.set_cons_succ]
  refine wpAnyW_takeL (i := 41) (v := ?_) (L := #[true, true, true, true, true, true, true, true, true, true, true, true, true, true, true, true, true, true, true, true, true, true, true, true, true, true, true, true, true, true, true, true, true, true, true, true, true, true, true, true, true, true, false, false, false, false, false, false, false, false, false]) (some 91) rfl (by kernel_rfl) (by kernel_rfl) (by kernel_rfl) (by kernel_rfl) (by kernel_rfl) (by kernel_rfl) (fun _ _ _ h => h) (by kernel_rfl) (by assumption) (by kernel_rfl) ?_ ?_
  rotate_left
  · (intro W1 hSw; (try dsimp only at hSw); go_simp; try with_reducible rfl)
  try simp only [Act.put, List.setIfInBounds_toArray, List.set_cons_zero, List.set_cons_succ]
  refine wpAnyW_takeL (i := 42) (v := ?_) (L := #[true, true, true, true, true, true, true, true, true, true, true, true, true, true, true, true, true, true, true, true, true, true, true, true, true, true, true, true, true, true, true, true, true, true, true, true, true, true, true, true, true, true, true, false, false, false, false, false, false, false, false]) (some 92) rfl (by kernel_rfl) (by kernel_rfl) (by kernel_rfl) (by kernel_rfl) (by kernel_rfl) (by kernel_rfl) (fun _ _ _ h => h) (by kernel_rfl) (by assumption) (by kernel_rfl) ?_ ?_
  rotate_left
  · (intro W1 hSw; (try dsimp only at hSw); go_simp; try with_reducible rfl)
  try simp only [Act.put, List.setIfInBounds_toArray, List.set_cons_zero, List.set_cons_succ]
  refine wpAnyW_takeL (i := 43) (v := ?_) (L := #[true, true, true, true, true, true, true, true, true, true, true, true, true, true, true, true, true, true, true, true, true, true, true, true, true, true, true, true, true, true, true, true, true, true, true, true, true, true, true, true, true, true, true, true, false, false, false, false, false, false, false]) (some 93) rfl (by kernel_rfl) (by kernel_rfl) (by kernel_rfl) (by kernel_rfl) (by kernel_rfl) (by kernel_rfl) (fun _ _ _ h => h) (by kernel_rfl) (by assumption) (by kernel_rfl) ?_ ?_
  rotate_left
  · (intro W1 hSw; (try dsimp only at hSw); go_simp; try with_reducible rfl)
  try simp only [Act.put, List.setIfInBounds_toArray, List.set_cons_zero, List.set_cons_succ]
  refine wpAnyW_takeL (i := 44) (v := ?_) (L := #[true, true, true, true, true, true, true, true, true, true, true, true, true, true, true, true, true, true, true, true, true, true, true, true, true, true, true, true, true, true, true, true, true, true, true, true, true, true, true, true, true, true, true, true, true, false, false, false, false, false, false]) (some 94) rfl (by kernel_rfl) (by kernel_rfl) (by kernel_rfl) (by kernel_rfl) (by kernel_rfl) (by kernel_rfl) (fun _ _ _ h => h) (by kernel_rfl) (by assumption) (by kernel_rfl) ?_ ?_
  rotate_left
  · (intro W1 hSw; (try dsimp only at hSw); go_simp; try with_reducible rfl)
  try simp only [Act.put, List.setIfInBounds_toArray, List.set_cons_zero, List.set_cons_succ]
  refine wpAnyW_takeL (i := 45) (v := ?_) (L := #[true, true, true, true, true, true, true, true, true, true, true, true, true, true, true, true, true, true, true, true, true, true, true, true, true, true, true, true, true, true, true, true, true, true, true, true, true, true, true, true, true, true, true, true, true, true, false, false, false, false, false]) (some 95) rfl (by kernel_rfl) (by kernel_rfl) (by kernel_rfl) (by kernel_rfl) (by kernel_rfl) (by kernel_rfl) (fun _ _ _ h => h) (by kernel_rfl) (by assumption) (by kernel_rfl) ?_ ?_
  rotate_left
  · (intro W1 hSw; (try dsimp only at hSw); go_simp; try with_reducible rfl)
  try simp only [Act.put, List.setIfInBounds_toArray, List.set_cons_zero, List.set_cons_succ]
  refine wpAnyW_one (i := 46) (L := #[true, true, true, true, true, true, true, true, true, true, true, true, true, true, true, true, true, true, true, true, true, true, true, true, true, true, true, true, true, true, true, true, true, true, true, true, true, true, true, true, true, true, true, true, true, true, true, false, false, false, false]) (by kernel_rfl) rfl rfl (by kernel_rfl) (by kernel_rfl) (fun K hK => ?_)
  go_simp
  refine (fromInt_v (K := 2) (-12) _ (by omega) (by omega) (by omega)).mono ?_
  rintro e w30 ⟨At, nt, ct, lt, rfl, Nt, Ot, it, hw⟩
  replace Ot := Ot.base (B' := w.heap.size + 0) HZ
  replace Oq := Oq.below hw
  replace iq := iq.below hw
  replace Or := Or.below hw
  replace ir := ir.below hw
  replace Om := Om.below hw
  replace im := im.below hw
  replace Ou := Ou.below hw
  replace iu := iu.below hw
  replace Op := Op.below hw
  replace ip := ip.below hw
  replace HZ := Nat.le_trans HZ hw.size
  refine hK.out _ _ (keep10 (by assumption) hw) (fun hV30 => ?_)
  clear hK K
  try simp only [Act.put, List.setIfInBounds_toArray, List.set_cons_zero, List.set_cons_succ]
  clear hw
  rw [show decide ((-12 : Int) < 0) = true by decide] at it
  refine wpAnyW_one (i := 47) (L := #[true, true, true, true, true, true, true, true, true, true, true, true, true, true, true, true, true, true, true, true, true, true, true, true, true, true, true, true, true, true, true, true, true, true, true, true, true, true, true, true, true, true, true, true, true, true, true, true, false, false, false]) (by kernel_rfl) rfl rfl (by kernel_rfl) (by kernel_rfl) (fun K hK => ?_)
  go_simp
  refine (icmp_v _ ip it (by omega)).mono ?_
  rintro e w31 ⟨rfl, hw⟩
  rw [show sgn (-12 - -12) = 0 by decide]
  replace Oq := Oq.below hw
  replace iq := iq.below hw
  replace Or := Or.below hw
  replace ir := ir.below hw
  replace Om := Om.below hw
  replace im := im.below hw
  replace Ou := Ou.below hw
  replace iu := iu.below hw
  replace Op := Op.below hw
  replace ip := ip.below hw
  replace Ot := Ot.below hw
  replace it := it.below hw
  replace HZ := Nat.le_trans HZ hw.size
  refine hK.out _ _ (keep10 (by assumption) hw) (fun hV31 => ?_)
  clear hK K
  try simp only [Act.put, List.setIfInBounds_toArray, List.set_cons_zero, List.set_cons_succ]
  clear hw
  refine wpAnyW_takeL (i := 48) (v := ?_) (L := #[true, true, true, true, true, true, true, true, true, true, true, true, true, true, true, true, true, true, true, true, true, true, true, true, true, true, true, true, true, true, true, true, true, true, true, true, true, true, true, true, true, true, true, true, true, true, true, true, true, false, false]) (some 98) rfl (by kernel_rfl) (by kernel_rfl) (by kernel_rfl) (by kernel_rfl) (by kernel_rfl) (by kernel_rfl) (fun _ _ _ h => h) (by kernel_rfl) (by assumption) (by kernel_rfl) ?_ ?_
  rotate_left
  · (intro W1 hSw; (try dsimp only at hSw); go_simp; try with_reducible rfl)
  try simp only [Act.put, List.setIfInBounds_toArray, List.set_cons_zero, List.set_cons_succ]
  refine wpAnyW_takeL (i := 49) (v := ?_) (L := #[true, true, true, true, true, true, true, true, true, true, true, true, true, true, true, true, true, true, true, true, true, true, true, true, true, true, true, true, true, true, true, true, true, true, true, true, true, true, true, true, true, true, true, true, true, true, true, true, true, true, false]) (some 99) rfl (by kernel_rfl) (by kernel_rfl) (by kernel_rfl) (by kernel_rfl) (by kernel_rfl) (by kernel_rfl) (fun _ _ _ h => h) (by kernel_rfl) (by assumption) (by kernel_rfl) ?_ ?_
  rotate_left
  · (intro W1 hSw; (try dsimp only at hSw); go_simp; try with_reducible rfl)
  try simp only [Act.put, List.setIfInBounds_toArray, List.set_cons_zero, List.set_cons_succ]
  refine wpAnyW_takeL (i := 50) (v := ?_) (L := #[true, true, true, true, true, true, true, true, true, true, true, true, true, true, true, true, true, true, true, true, true, true, true, true, true, true, true, true, true, true, true, true, true, true, true, true, true, true, true, true, true, true, true, true, true, true, true, true, true, true, true]) (some 0) rfl (by kernel_rfl) (by kernel_rfl) (by kernel_rfl) (by kernel_rfl) (by kernel_rfl) (by kernel_rfl) (fun _ _ _ h => h) (by kernel_rfl) (by assumption) (by kernel_rfl) ?_ ?_
  rotate_left
  · (intro W1 hSw; (try dsimp only at hSw); go_simp; try with_reducible rfl)
  try simp only [Act.put, List.setIfInBounds_toArray, List.set_cons_zero, List.set_cons_succ]
  refine wpAnyW_done (by kernel_rfl) ?_ _
  refine NoPanic.normal ?_
  have FR := hide (to10 (by assumption))
  go_wp2_with fail
  go_ret
  exact ⟨rfl, (unhide FR).bel⟩

end Go.Proofs.Ytjdcolaefhheaaa
