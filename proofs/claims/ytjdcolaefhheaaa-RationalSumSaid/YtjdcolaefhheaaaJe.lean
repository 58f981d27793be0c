/-
  Integers: DivRound, and the reference's.
-/
import Derived.Test.YtjdcolaefhheaaaJd
namespace Go.Proofs.Ytjdcolaefhheaaa
set_option linter.unusedVariables false
set_option linter.unusedSimpArgs false
open Go.RowKit
attribute [local go_sem ↓] Go.wp_at_zero Go.wp_at_succ

/-- x / y, rounded to nearest, ties away from zero. -/
def rndI (x y : Int) : Int := if y = 0 then 0 else zi (!(decide (x < 0) == decide (y < 0))) ((2 * x.natAbs + y.natAbs) / (2 * y.natAbs))
theorem rnd_signs (s t : Bool) (a b : Nat) (hb : b ≠ 0) : rndI (zi s a) (zi t b) = zi (!(s == t)) ((2 * a + b) / (2 * b)) := by
  have h0 : zi t b ≠ 0 := by cases t <;> simp [zi] <;> omega
  rw [rndI, if_neg h0, zi_abs, zi_abs, zi_neg, zi_neg, decide_eq_true (Nat.pos_of_ne_zero hb), Bool.and_true]
  rcases Nat.eq_zero_or_pos a with h | h
  · subst h
    have e : (2 * 0 + b) / (2 * b) = 0 := Nat.div_eq_of_lt (by omega)
    rw [e]
    cases s <;> cases t <;> rfl
  · rw [decide_eq_true h, Bool.and_true]
theorem rndI_lt {x y : Int} {K : Nat} (h : x.natAbs < pw K) : (rndI x y).natAbs < pw (K + 1) := by
  unfold rndI
  split
  · exact pw_pos _
  · rename_i hy
    rw [zi_abs]
    have h1 : (2 * x.natAbs + y.natAbs) / (2 * y.natAbs) ≤ x.natAbs + 1 := by
      rw [Nat.div_le_iff_le_mul_add_pred (by omega)]
      have : 1 * x.natAbs ≤ y.natAbs * x.natAbs := Nat.mul_le_mul_right _ (by omega)
      have h3 : 2 * y.natAbs * (x.natAbs + 1) = 2 * (y.natAbs * x.natAbs) + 2 * y.natAbs := by grind
      omega
    have h2 := pw_pos K
    rw [pw_succ]; omega
def RetRII (w : World) (x y : Int) (K : Nat) (e : Ending) (w' : World) : Prop :=
  ∃ A n c l, e = .returned (.tuple #[.agg #[.bool (decide (rndI x y < 0)), .slice A n c], .int .i64 (divEI y)]) ∧ Norm l ∧ Own w' w.heap.size A n c l ∧ II w' (decide (rndI x y < 0)) A n c l (rndI x y) (K + 1) ∧ Below w.heap.size w w'
theorem shift_one (v : Nat) : shiftN v 1 = v * 2 := rfl

set_option maxRecDepth 100000 in
set_option maxHeartbeats 4000000 in
theorem rdivround_c {Aa Ab : Option Addr} {na ca nb cb : Nat} {la lb : List Nat} {sa sb : Bool} {xa xb : Int} {Ka Kb : Nat} (w : World) (ia : II w sa Aa na ca la xa Ka) (ib : II w sb Ab nb cb lb xb Kb) (hK : Ka ≤ 4294967296 ∧ Kb ≤ 4294967296) :
    Calls Try.prog 58 #[.agg #[.bool sa, .slice Aa na ca], .agg #[.bool sb, .slice Ab nb cb]] w (RetRII w xa xb Ka) := by
  have hlr := rndI_lt (y := xb) ia.lt
  have hna := ia.le
  have hnb := ib.le
  have ua := val_lt_of ia.inn.dig (Nat.le_of_eq ia.inn.len)
  have ub := val_lt_of ib.inn.dig (Nat.le_of_eq ib.inn.len)
  obtain ⟨r, hr⟩ : ∃ r, r = rndI xa xb := ⟨_, rfl⟩
  unfold RetRII
  rw [← hr] at hlr
  have HL := hide hlr
  have UA := hide (And.intro ua ub)
  clear hlr ua ub
  go_enter Try.func58, Try.ntmps58
  go_wp2_with fail
  obtain ⟨w0, hw0⟩ : ∃ w0, w0 = (((w.alloc (.cells #[.bool sa, .slice Aa na ca] 24)).alloc (.cells #[.bool sb, .slice Ab nb cb] 24)).alloc (.cells #[.bool false, .slice none 0 0] 24)) := ⟨_, rfl⟩
  have kw00 : Blk w0 (w.heap.size) 24 #[.bool sa, .slice Aa na ca] := by rw [hw0]; exact allocs_blk [(#[.bool sa, .slice Aa na ca], 24), (#[.bool sb, .slice Ab nb cb], 24), (#[.bool false, .slice none 0 0], 24)] w 0 _ _ rfl
  have kw01 : Blk w0 (w.heap.size + 1) 24 #[.bool sb, .slice Ab nb cb] := by rw [hw0]; exact allocs_blk [(#[.bool sa, .slice Aa na ca], 24), (#[.bool sb, .slice Ab nb cb], 24), (#[.bool false, .slice none 0 0], 24)] w 1 _ _ rfl
  have kw02 : Blk w0 (w.heap.size + 1 + 1) 24 #[.bool false, .slice none 0 0] := by rw [hw0]; exact allocs_blk [(#[.bool sa, .slice Aa na ca], 24), (#[.bool sb, .slice Ab nb cb], 24), (#[.bool false, .slice none 0 0], 24)] w 2 _ _ rfl
  have FR : Fr w [(w.heap.size + 1 + 1, 2)] w0 := Fr.cons ((⟨by rw [hw0]; exact allocs_below [(#[.bool sa, .slice Aa na ca], 24), (#[.bool sb, .slice Ab nb cb], 24), (#[.bool false, .slice none 0 0], 24)] w, fun _ h => by cases h⟩ : Fr w [] w0)) (g := w.heap.size + 1 + 1) (k := 2) (by omega) (.of_blk kw02 rfl)
  have sw0 : w0.heap.size = w.heap.size + 3 := by rw [hw0]; exact allocs_size [(#[.bool sa, .slice Aa na ca], 24), (#[.bool sb, .slice Ab nb cb], 24), (#[.bool false, .slice none 0 0], 24)] w
  rw [← hw0]
  clear hw0
  have c0_0 := kw00.cell 0
  have c0_1 := kw00.cell 1
  have c1_0 := kw01.cell 0
  have c1_1 := kw01.cell 1
  replace FR := hide FR
  have HZ : w.heap.size + 3 ≤ w0.heap.size := by omega
  clear sw0 kw00 kw01 kw02
  go_wp2_with fail
  refine (rsign_v _ ((unhide FR).ii ib) (by omega)).mono ?_
  rintro e w2 ⟨rfl, hw⟩
  replace c0_0 := keepc hw c0_0
  replace c0_1 := keepc hw c0_1
  replace c1_0 := keepc hw c1_0
  replace c1_1 := keepc hw c1_1
  replace FR := hide ((unhide FR).below hw)
  replace HZ := Nat.le_trans HZ hw.size
  clear hw
  by_cases hy0 : xb = 0
  · have E9 : Hid (divEI xb = 9) := by show (if xb = 0 then (9 : Int) else 0) = 9; rw [if_pos hy0]
    have R0 : Hid (r = 0) := by show _ = _; rw [hr]; show (if xb = 0 then (0 : Int) else _) = 0; rw [if_pos hy0]
    have HK := hide hr
    have FR := unhide FR
    obtain ⟨⟨_, kg2_0, fg2_0⟩, ⟨_, kg2_1, fg2_1⟩⟩ := FR.two (g := w.heap.size + 1 + 1) (by simp)
    have K0 : Hid (sgn xb = 0) := by show _ = _; rw [hy0]; rfl
    rw [unhide K0]
    clear hy0 hr
    go_wp2_with fail
    refine bodyPost_ret (v := .tuple #[.agg #[.bool false, .slice none 0 0], .int .i64 9]) (by simp [results, Try.results58, go_sem, kg2_0, fg2_0, kg2_1, fg2_1]) rfl ?_
    rw [← unhide HK, unhide E9, unhide R0]
    exact ⟨none, 0, 0, [], rfl, Norm.nil, Own.nil_, ⟨In.nil_, rfl, Nat.zero_le _⟩, ((FR.set (by simp; omega) _).set (by simp; omega) _).bel⟩
  · have E9 : Hid (divEI xb = 0) := by show (if xb = 0 then (9 : Int) else 0) = 0; rw [if_neg hy0]
    have hvb : val lb ≠ 0 := by intro h; apply hy0; rw [← ib.zi, h]; cases sb <;> rfl
    have HV := hide hvb
    have hrr : r = zi (!(sa == sb)) ((2 * val la + val lb) / (2 * val lb)) := by rw [hr, ← ia.zi, ← ib.zi]; exact rnd_signs _ _ _ _ hvb
    have HR := hide hrr
    have HK := hide hr
    have K0 : ((sgn xb == 0)) = false := by unfold sgn; split <;> simp [hy0]
    clear hy0 hr hvb hrr
    go_wp2_with fail
    have hS := And.intro c0_0 (And.intro c0_1 (And.intro c1_0 (And.intro c1_1 (FR))))
    clear c0_0 c0_1 c1_0 c1_1 FR
    refine wp_region_noPanic ?_
    refine wp_region_W (S := fun w' => w'.cell? ⟨w.heap.size, 0, none⟩ = some (.bool sa) ∧ w'.cell? ⟨w.heap.size, 1, none⟩ = some (.slice Aa na ca) ∧ w'.cell? ⟨w.heap.size + 1, 0, none⟩ = some (.bool sb) ∧ w'.cell? ⟨w.heap.size + 1, 1, none⟩ = some (.slice Ab nb cb) ∧ Hid (Fr w [(w.heap.size + 1 + 1, 2)] w')) (T := fun i => i == 1000) (by kernel_rfl) (drew4 hS) (fun hW0 => ?_)
    clear hS
    refine wpAnyW_take (i := 0) (v := ?_) rfl (by kernel_rfl) (by kernel_rfl) (by kernel_rfl) (by kernel_rfl) (by kernel_rfl) (fun _ _ _ h => h) (Or.inl ⟨by rfl, ?_⟩) (by assumption) ?_
    rotate_left
    · (intro W1 hSw; (try dsimp only at hSw); go_simp; try with_reducible rfl)
    try simp only [Act.put, List.setIfInBounds_toArray, List.set_cons_zero, List.set_cons_succ]
    refine wpAnyW_take (i := 1) (v := ?_) rfl (by kernel_rfl) (by kernel_rfl) (by kernel_rfl) (by kernel_rfl) (by kernel_rfl) (fun _ _ _ h => h) (Or.inl ⟨by rfl, ?_⟩) (by assumption) ?_
    rotate_left
    · (intro W1 hSw; (try dsimp only at hSw); go_simp; try with_reducible rfl)
    try simp only [Act.put, List.setIfInBounds_toArray, List.set_cons_zero, List.set_cons_succ]
    refine wpAnyW_take (i := 2) (v := ?_) rfl (by kernel_rfl) (by kernel_rfl) (by kernel_rfl) (by kernel_rfl) (by kernel_rfl) (fun _ _ _ h => h) (Or.inl ⟨by rfl, ?_⟩) (by assumption) ?_
    rotate_left
    · (intro W1 hSw; (try dsimp only at hSw); go_simp; try with_reducible rfl)
    try simp only [Act.put, List.setIfInBounds_toArray, List.set_cons_zero, List.set_cons_succ]
    refine wpAnyW_take (i := 3) (v := ?_) rfl (by kernel_rfl) (by kernel_rfl) (by kernel_rfl) (by kernel_rfl) (by kernel_rfl) (fun _ _ _ h => h) (Or.inl ⟨by rfl, ?_⟩) (by assumption) ?_
    rotate_left
    · (intro W1 hSw; (try dsimp only at hSw); go_simp; try with_reducible rfl)
    try simp only [Act.put, List.setIfInBounds_toArray, List.set_cons_zero, List.set_cons_succ]
    refine wpAnyW_take (i := 5) (v := ?_) rfl (by kernel_rfl) (by kernel_rfl) (by kernel_rfl) (by kernel_rfl) (by kernel_rfl) (fun _ _ _ h => h) (Or.inl ⟨by rfl, ?_⟩) (by assumption) ?_
    rotate_left
    · (intro W1 hSw; (try dsimp only at hSw); go_simp; try with_reducible rfl)
    try simp only [Act.put, List.setIfInBounds_toArray, List.set_cons_zero, List.set_cons_succ]
    refine wpAnyW_take (i := 6) (v := ?_) rfl (by kernel_rfl) (by kernel_rfl) (by kernel_rfl) (by kernel_rfl) (by kernel_rfl) (fun _ _ _ h => h) (Or.inl ⟨by rfl, ?_⟩) (by assumption) ?_
    rotate_left
    · (intro W1 hSw; (try dsimp only at hSw); go_simp; try with_reducible rfl)
    try simp only [Act.put, List.setIfInBounds_toArray, List.set_cons_zero, List.set_cons_succ]
    refine wpAnyW_take (i := 8) (v := ?_) rfl (by kernel_rfl) (by kernel_rfl) (by kernel_rfl) (by kernel_rfl) (by kernel_rfl) (fun _ _ _ h => h) (Or.inl ⟨by rfl, ?_⟩) (by assumption) ?_
    rotate_left
    · (intro W1 hSw; (try dsimp only at hSw); go_simp; try with_reducible rfl)
    try simp only [Act.put, List.setIfInBounds_toArray, List.set_cons_zero, List.set_cons_succ]
    refine wpAnyW_take (i := 9) (v := ?_) rfl (by kernel_rfl) (by kernel_rfl) (by kernel_rfl) (by kernel_rfl) (by kernel_rfl) (fun _ _ _ h => h) (Or.inl ⟨by rfl, ?_⟩) (by assumption) ?_
    rotate_left
    · (intro W1 hSw; (try dsimp only at hSw); go_simp; try with_reducible rfl)
    try simp only [Act.put, List.setIfInBounds_toArray, List.set_cons_zero, List.set_cons_succ]
    refine wpAnyW_take (i := 10) (v := ?_) rfl (by kernel_rfl) (by kernel_rfl) (by kernel_rfl) (by kernel_rfl) (by kernel_rfl) (fun _ _ _ h => h) (Or.inl ⟨by rfl, ?_⟩) (by assumption) ?_
    rotate_left
    · (intro W1 hSw; (try dsimp only at hSw); go_simp; try with_reducible rfl)
    try simp only [Act.put, List.setIfInBounds_toArray, List.set_cons_zero, List.set_cons_succ]
    refine wpAnyW_take (i := 11) (v := ?_) rfl (by kernel_rfl) (by kernel_rfl) (by kernel_rfl) (by kernel_rfl) (by kernel_rfl) (fun _ _ _ h => h) (Or.inl ⟨by rfl, ?_⟩) (by assumption) ?_
    rotate_left
    · (intro W1 hSw; (try dsimp only at hSw); go_simp; try with_reducible rfl)
    try simp only [Act.put, List.setIfInBounds_toArray, List.set_cons_zero, List.set_cons_succ]
    refine wpAnyW_ready (rs := [4]) (by kernel_rfl) (by simp) (AllReadyW.cons rfl rfl (fun K hK => ?_) AllReadyW.nil)
    go_simp
    refine (refAdd_c _ (Fr.ii (to4 (by assumption)) ia).inn (Fr.ii (to4 (by assumption)) ia).inn (by omega) (by omega)).mono ?_
    rintro e w3 ⟨Ap, np, cp, lp, rfl, Np, vp, op, hw⟩
    have bp : np ≤ na + 1 := by
      have h1 := Np.length_le (k := na + 1) (by rw [vp]; exact pw_add_lt (unhide UA).1 (unhide UA).1 (by omega) (by omega))
      rw [op.len] at h1; exact h1
    have ip := op.toIn
    have Vp := hide vp
    clear vp op
    replace HZ := Nat.le_trans HZ hw.size
    refine hK.out _ _ (keep4 (by assumption) hw) (fun hV3 => ?_)
    clear hK K
    try simp only [Act.put, List.setIfInBounds_toArray, List.set_cons_zero, List.set_cons_succ]
    clear hw
    refine wpAnyW_ready (rs := [7]) (by kernel_rfl) (by simp) (AllReadyW.cons rfl rfl (fun K hK => ?_) AllReadyW.nil)
    go_simp
    refine (refAdd_c _ ip (Fr.ii (to4 (by assumption)) ib).inn (by omega) (by omega)).mono ?_
    rintro e w4 ⟨Aq, nq, cq, lq, rfl, Nq, vq, oq, hw⟩
    have bq : nq ≤ na + nb + 2 := by
      have h1 := Nq.length_le (k := na + nb + 2) (by rw [vq]; exact pw_add_lt (val_lt_of ip.dig (Nat.le_trans (Nat.le_of_eq ip.len) bp)) (unhide UA).2 (by omega) (by omega))
      rw [oq.len] at h1; exact h1
    have iq := oq.toIn
    have Vq := hide vq
    clear vq oq
    replace ip := ip.below hw
    replace HZ := Nat.le_trans HZ hw.size
    refine hK.out _ _ (keep4 (by assumption) hw) (fun hV4 => ?_)
    clear hK K
    try simp only [Act.put, List.setIfInBounds_toArray, List.set_cons_zero, List.set_cons_succ]
    clear hw
    refine wpAnyW_ready (rs := [12]) (by kernel_rfl) (by simp) (AllReadyW.cons rfl rfl (fun K hK => ?_) AllReadyW.nil)
    go_simp
    refine (refAdd_c _ (Fr.ii (to4 (by assumption)) ib).inn (Fr.ii (to4 (by assumption)) ib).inn (by omega) (by omega)).mono ?_
    rintro e w5 ⟨At, nt, ct, lt, rfl, Nt, vt, ot, hw⟩
    have bt : nt ≤ nb + 1 := by
      have h1 := Nt.length_le (k := nb + 1) (by rw [vt]; exact pw_add_lt (unhide UA).2 (unhide UA).2 (by omega) (by omega))
      rw [ot.len] at h1; exact h1
    have it := ot.toIn
    have Vt := hide vt
    clear vt ot
    replace ip := ip.below hw
    replace iq := iq.below hw
    replace HZ := Nat.le_trans HZ hw.size
    refine hK.out _ _ (keep4 (by assumption) hw) (fun hV5 => ?_)
    clear hK K
    try simp only [Act.put, List.setIfInBounds_toArray, List.set_cons_zero, List.set_cons_succ]
    clear hw
    refine wpAnyW_ready (rs := [13]) (by kernel_rfl) (by simp) (AllReadyW.cons rfl rfl (fun K hK => ?_) AllReadyW.nil)
    go_simp
    refine (refDivmod_c _ iq it (by omega) (by omega)).mono ?_
    rintro e w6 ⟨Au, nu, cu, lu, Av, nv, cv, lv, rfl, Nu, vu, Nv, vv, ou, ov, hw⟩
    have bu : nu ≤ na + nb + 2 := by
      have h1 := Nu.length_le (k := na + nb + 2) (by rw [vu]; exact Nat.lt_of_le_of_lt (Nat.div_le_self _ _) (val_lt_of iq.dig (Nat.le_trans (Nat.le_of_eq iq.len) bq)))
      rw [ou.len] at h1; exact h1
    have iu := ou.toIn
    have Vu := hide vu
    clear vu vv ou ov iq it
    replace ip := ip.below hw
    replace HZ := Nat.le_trans HZ hw.size
    refine hK.out _ _ (keep4 (by assumption) hw) (fun hV6 => ?_)
    clear hK K
    try simp only [Act.put, List.setIfInBounds_toArray, List.set_cons_zero, List.set_cons_succ]
    clear hw
    refine wpAnyW_take (i := 14) (v := ?_) rfl (by kernel_rfl) (by kernel_rfl) (by kernel_rfl) (by kernel_rfl) (by kernel_rfl) (fun _ _ _ h => h) (Or.inl ⟨by rfl, ?_⟩) (by assumption) ?_
    rotate_left
    · (intro W1 hSw; (try dsimp only at hSw); go_simp; try with_reducible rfl)
    try simp only [Act.put, List.setIfInBounds_toArray, List.set_cons_zero, List.set_cons_succ]
    refine wpAnyW_take (i := 15) (v := ?_) rfl (by kernel_rfl) (by kernel_rfl) (by kernel_rfl) (by kernel_rfl) (by kernel_rfl) (fun _ _ _ h => h) (Or.inl ⟨by rfl, ?_⟩) (by assumption) ?_
    rotate_left
    · (intro W1 hSw; (try dsimp only at hSw); go_simp; try with_reducible rfl)
    try simp only [Act.put, List.setIfInBounds_toArray, List.set_cons_zero, List.set_cons_succ]
    refine wpAnyW_take (i := 16) (v := ?_) rfl (by kernel_rfl) (by kernel_rfl) (by kernel_rfl) (by kernel_rfl) (by kernel_rfl) (fun _ _ _ h => h) (Or.inl ⟨by rfl, ?_⟩) (by assumption) ?_
    rotate_left
    · (intro W1 hSw; (try dsimp only at hSw); go_simp; try with_reducible rfl)
    try simp only [Act.put, List.setIfInBounds_toArray, List.set_cons_zero, List.set_cons_succ]
    refine wpAnyW_take (i := 17) (v := ?_) rfl (by kernel_rfl) (by kernel_rfl) (by kernel_rfl) (by kernel_rfl) (by kernel_rfl) (fun _ _ _ h => h) (Or.inl ⟨by rfl, ?_⟩) (by assumption) ?_
    rotate_left
    · (intro W1 hSw; (try dsimp only at hSw); go_simp; try with_reducible rfl)
    try simp only [Act.put, List.setIfInBounds_toArray, List.set_cons_zero, List.set_cons_succ]
    refine wpAnyW_take (i := 18) (v := ?_) rfl (by kernel_rfl) (by kernel_rfl) (by kernel_rfl) (by kernel_rfl) (by kernel_rfl) (fun _ _ _ h => h) (Or.inl ⟨by rfl, ?_⟩) (by assumption) ?_
    rotate_left
    · (intro W1 hSw; (try dsimp only at hSw); go_simp; try with_reducible rfl)
    try simp only [Act.put, List.setIfInBounds_toArray, List.set_cons_zero, List.set_cons_succ]
    refine wpAnyW_take (i := 19) (v := ?_) rfl (by kernel_rfl) (by kernel_rfl) (by kernel_rfl) (by kernel_rfl) (by kernel_rfl) (fun _ _ _ h => h) (Or.inl ⟨by rfl, ?_⟩) (by assumption) ?_
    rotate_left
    · (intro W1 hSw; (try dsimp only at hSw); go_simp; try with_reducible rfl)
    try simp only [Act.put, List.setIfInBounds_toArray, List.set_cons_zero, List.set_cons_succ]
    refine wpAnyW_take (i := 20) (v := ?_) rfl (by kernel_rfl) (by kernel_rfl) (by kernel_rfl) (by kernel_rfl) (by kernel_rfl) (fun _ _ _ h => h) (Or.inl ⟨by rfl, ?_⟩) (by assumption) ?_
    rotate_left
    · (intro W1 hSw; (try dsimp only at hSw); go_simp; try with_reducible rfl)
    try simp only [Act.put, List.setIfInBounds_toArray, List.set_cons_zero, List.set_cons_succ]
    refine wpAnyW_done (by kernel_rfl) ?_ _
    refine NoPanic.normal ?_
    have FR := hide (to4 (by assumption))
    have hZ := hV6
    have c0_0 := hZ.1
    have c0_1 := hZ.2.1
    have c1_0 := hZ.2.2.1
    have c1_1 := hZ.2.2.2.1
    clear hZ
    go_wp2_with fail
    refine (rnew_v (K := Ka + Kb + 2) _ (x := r) ⟨iu, by rw [unhide Vu, unhide Vq, unhide Vp, unhide Vt, unhide HR]; congr 2 <;> omega, by omega⟩ (Nat.le_refl _) (by omega)).mono ?_
    rintro e w7 ⟨Az, nz, cz, lz, rfl, Nz, Oz, iz, hw⟩
    replace Oz := Oz.base (B' := w.heap.size + 3) HZ
    replace c0_0 := keepc hw c0_0
    replace c0_1 := keepc hw c0_1
    replace c1_0 := keepc hw c1_0
    replace c1_1 := keepc hw c1_1
    replace FR := hide ((unhide FR).below hw)
    replace HZ := Nat.le_trans HZ hw.size
    have FR := unhide FR
    obtain ⟨⟨_, kg2_0, fg2_0⟩, ⟨_, kg2_1, fg2_1⟩⟩ := FR.two (g := w.heap.size + 1 + 1) (by simp)
    go_wp2_with fail
    refine bodyPost_ret (v := .tuple #[.agg #[.bool (decide (r < 0)), .slice Az nz cz], .int .i64 0]) (by simp [results, Try.results58, go_sem, kg2_0, fg2_0, kg2_1, fg2_1]) rfl ?_
    rw [← unhide HK, unhide E9]
    have h0 : w.heap.size + 1 + 1 < w.heap.size + 3 := by omega
    exact ⟨Az, nz, cz, lz, rfl, Nz, (Oz.set2 h0).base (by omega), ⟨(Oz.set2 h0).toIn, iz.zi, k_len Nz iz.abs.symm Oz.toIn (unhide HL)⟩, ((FR.set (by simp; omega) _).set (by simp; omega) _).bel⟩

set_option maxRecDepth 100000 in
set_option maxHeartbeats 4000000 in
theorem idivround_c {Aa Ab : Option Addr} {na ca nb cb : Nat} {la lb : List Nat} {sa sb : Bool} {xa xb : Int} {Ka Kb : Nat} (w : World) (ia : II w sa Aa na ca la xa Ka) (ib : II w sb Ab nb cb lb xb Kb) (hK : Ka ≤ 4294967296 ∧ Kb ≤ 4294967296) :
    Calls Try.prog 57 #[.agg #[.bool sa, .slice Aa na ca], .agg #[.bool sb, .slice Ab nb cb]] w (RetRII w xa xb Ka) := by
  have hlr := rndI_lt (y := xb) ia.lt
  have hna := ia.le
  have hnb := ib.le
  have ua := val_lt_of ia.inn.dig (Nat.le_of_eq ia.inn.len)
  have ub := val_lt_of ib.inn.dig (Nat.le_of_eq ib.inn.len)
  obtain ⟨r, hr⟩ : ∃ r, r = rndI xa xb := ⟨_, rfl⟩
  unfold RetRII
  rw [← hr] at hlr
  have HL := hide hlr
  have UA := hide (And.intro ua ub)
  clear hlr ua ub
  go_enter Try.func57, Try.ntmps57
  go_wp2_with fail
  obtain ⟨w0, hw0⟩ : ∃ w0, w0 = (((w.alloc (.cells #[.bool sa, .slice Aa na ca] 24)).alloc (.cells #[.bool sb, .slice Ab nb cb] 24)).alloc (.cells #[.bool false, .slice none 0 0] 24)) := ⟨_, rfl⟩
  have kw00 : Blk w0 (w.heap.size) 24 #[.bool sa, .slice Aa na ca] := by rw [hw0]; exact allocs_blk [(#[.bool sa, .slice Aa na ca], 24), (#[.bool sb, .slice Ab nb cb], 24), (#[.bool false, .slice none 0 0], 24)] w 0 _ _ rfl
  have kw01 : Blk w0 (w.heap.size + 1) 24 #[.bool sb, .slice Ab nb cb] := by rw [hw0]; exact allocs_blk [(#[.bool sa, .slice Aa na ca], 24), (#[.bool sb, .slice Ab nb cb], 24), (#[.bool false, .slice none 0 0], 24)] w 1 _ _ rfl
  have kw02 : Blk w0 (w.heap.size + 1 + 1) 24 #[.bool false, .slice none 0 0] := by rw [hw0]; exact allocs_blk [(#[.bool sa, .slice Aa na ca], 24), (#[.bool sb, .slice Ab nb cb], 24), (#[.bool false, .slice none 0 0], 24)] w 2 _ _ rfl
  have FR : Fr w [(w.heap.size + 1 + 1, 2)] w0 := Fr.cons ((⟨by rw [hw0]; exact allocs_below [(#[.bool sa, .slice Aa na ca], 24), (#[.bool sb, .slice Ab nb cb], 24), (#[.bool false, .slice none 0 0], 24)] w, fun _ h => by cases h⟩ : Fr w [] w0)) (g := w.heap.size + 1 + 1) (k := 2) (by omega) (.of_blk kw02 rfl)
  have sw0 : w0.heap.size = w.heap.size + 3 := by rw [hw0]; exact allocs_size [(#[.bool sa, .slice Aa na ca], 24), (#[.bool sb, .slice Ab nb cb], 24), (#[.bool false, .slice none 0 0], 24)] w
  rw [← hw0]
  clear hw0
  have c0_0 := kw00.cell 0
  have c0_1 := kw00.cell 1
  have c1_0 := kw01.cell 0
  have c1_1 := kw01.cell 1
  replace FR := hide FR
  have HZ : w.heap.size + 3 ≤ w0.heap.size := by omega
  clear sw0 kw00 kw01 kw02
  go_wp2_with fail
  refine (shift_c 1 _ ((unhide FR).ii ib).inn (by omega) (by omega) (by omega)).mono ?_
  rintro e w2 ⟨At, nt, lt, rfl, Nt, vt, ot, hw⟩
  have bt : nt ≤ nb + 1 := by
    have h1 := Nt.length_le (k := nb + 1) (by rw [vt]; exact by rw [shift_one]; have h := pw_add_lt (unhide UA).2 (unhide UA).2 (Nat.le_refl _) (Nat.le_refl _); omega)
    rw [ot.len] at h1; exact h1
  have it := ot.toIn
  have Vt := hide vt
  clear vt ot
  replace c0_0 := keepc hw c0_0
  replace c0_1 := keepc hw c0_1
  replace c1_0 := keepc hw c1_0
  replace c1_1 := keepc hw c1_1
  replace FR := hide ((unhide FR).below hw)
  replace HZ := Nat.le_trans HZ hw.size
  clear hw
  go_wp2_with fail
  have hS := And.intro c0_0 (And.intro c0_1 (And.intro c1_0 (And.intro c1_1 (FR))))
  clear c0_0 c0_1 c1_0 c1_1 FR
  refine wp_region_noPanic ?_
  refine wp_region_W (S := fun w' => w'.cell? ⟨w.heap.size, 0, none⟩ = some (.bool sa) ∧ w'.cell? ⟨w.heap.size, 1, none⟩ = some (.slice Aa na ca) ∧ w'.cell? ⟨w.heap.size + 1, 0, none⟩ = some (.bool sb) ∧ w'.cell? ⟨w.heap.size + 1, 1, none⟩ = some (.slice Ab nb cb) ∧ Hid (Fr w [(w.heap.size + 1 + 1, 2)] w')) (T := fun i => i == 1000) (by kernel_rfl) (drew4 hS) (fun hW0 => ?_)
  clear hS
  replace it := it.drew
  refine wpAnyW_take (i := 0) (v := ?_) rfl (by kernel_rfl) (by kernel_rfl) (by kernel_rfl) (by kernel_rfl) (by kernel_rfl) (fun _ _ _ h => h) (Or.inl ⟨by rfl, ?_⟩) (by assumption) ?_
  rotate_left
  · (intro W1 hSw; (try dsimp only at hSw); go_simp; try with_reducible rfl)
  try simp only [Act.put, List.setIfInBounds_toArray, List.set_cons_zero, List.set_cons_succ]
  refine wpAnyW_take (i := 1) (v := ?_) rfl (by kernel_rfl) (by kernel_rfl) (by kernel_rfl) (by kernel_rfl) (by kernel_rfl) (fun _ _ _ h => h) (Or.inl ⟨by rfl, ?_⟩) (by assumption) ?_
  rotate_left
  · (intro W1 hSw; (try dsimp only at hSw); go_simp; try with_reducible rfl)
  try simp only [Act.put, List.setIfInBounds_toArray, List.set_cons_zero, List.set_cons_succ]
  refine wpAnyW_take (i := 3) (v := ?_) rfl (by kernel_rfl) (by kernel_rfl) (by kernel_rfl) (by kernel_rfl) (by kernel_rfl) (fun _ _ _ h => h) (Or.inl ⟨by rfl, ?_⟩) (by assumption) ?_
  rotate_left
  · (intro W1 hSw; (try dsimp only at hSw); go_simp; try with_reducible rfl)
  try simp only [Act.put, List.setIfInBounds_toArray, List.set_cons_zero, List.set_cons_succ]
  refine wpAnyW_take (i := 4) (v := ?_) rfl (by kernel_rfl) (by kernel_rfl) (by kernel_rfl) (by kernel_rfl) (by kernel_rfl) (fun _ _ _ h => h) (Or.inl ⟨by rfl, ?_⟩) (by assumption) ?_
  rotate_left
  · (intro W1 hSw; (try dsimp only at hSw); go_simp; try with_reducible rfl)
  try simp only [Act.put, List.setIfInBounds_toArray, List.set_cons_zero, List.set_cons_succ]
  refine wpAnyW_take (i := 6) (v := ?_) rfl (by kernel_rfl) (by kernel_rfl) (by kernel_rfl) (by kernel_rfl) (by kernel_rfl) (fun _ _ _ h => h) (Or.inl ⟨by rfl, ?_⟩) (by assumption) ?_
  rotate_left
  · (intro W1 hSw; (try dsimp only at hSw); go_simp; try with_reducible rfl)
  try simp only [Act.put, List.setIfInBounds_toArray, List.set_cons_zero, List.set_cons_succ]
  refine wpAnyW_ready (rs := [2]) (by kernel_rfl) (by simp) (AllReadyW.cons rfl rfl (fun K hK => ?_) AllReadyW.nil)
  go_simp
  refine (shift_c 1 _ (Fr.ii (to4 (by assumption)) ia).inn (by omega) (by omega) (by omega)).mono ?_
  rintro e w3 ⟨Ap, np, lp, rfl, Np, vp, op, hw⟩
  have bp : np ≤ na + 1 := by
    have h1 := Np.length_le (k := na + 1) (by rw [vp]; exact by rw [shift_one]; have h := pw_add_lt (unhide UA).1 (unhide UA).1 (Nat.le_refl _) (Nat.le_refl _); omega)
    rw [op.len] at h1; exact h1
  have ip := op.toIn
  have Vp := hide vp
  clear vp op
  replace it := it.below hw
  replace HZ := Nat.le_trans HZ hw.size
  refine hK.out _ _ (keep4 (by assumption) hw) (fun hV3 => ?_)
  clear hK K
  try simp only [Act.put, List.setIfInBounds_toArray, List.set_cons_zero, List.set_cons_succ]
  clear hw
  refine wpAnyW_ready (rs := [5]) (by kernel_rfl) (by simp) (AllReadyW.cons rfl rfl (fun K hK => ?_) AllReadyW.nil)
  go_simp
  refine (add_c _ ip (Fr.ii (to4 (by assumption)) ib).inn (by omega) (by omega)).mono ?_
  rintro e w4 ⟨Aq, nq, cq, lq, rfl, Nq, vq, oq, hw⟩
  have bq : nq ≤ na + nb + 2 := by
    have h1 := Nq.length_le (k := na + nb + 2) (by rw [vq]; exact pw_add_lt (val_lt_of ip.dig (Nat.le_trans (Nat.le_of_eq ip.len) bp)) (unhide UA).2 (by omega) (by omega))
    rw [oq.len] at h1; exact h1
  have iq := oq.toIn
  have Vq := hide vq
  clear vq oq
  replace it := it.below hw
  replace ip := ip.below hw
  replace HZ := Nat.le_trans HZ hw.size
  refine hK.out _ _ (keep4 (by assumption) hw) (fun hV4 => ?_)
  clear hK K
  try simp only [Act.put, List.setIfInBounds_toArray, List.set_cons_zero, List.set_cons_succ]
  clear hw
  refine wpAnyW_ready (rs := [7]) (by kernel_rfl) (by simp) (AllReadyW.cons rfl rfl (fun K hK => ?_) AllReadyW.nil)
  go_simp
  refine (divmod_c _ iq it (by omega) (by omega)).mono ?_
  rintro e w5 ⟨Au, nu, cu, lu, Av, nv, cv, lv, rfl, Nu, vu, Nv, vv, ou, ov, hw⟩
  have bu : nu ≤ na + nb + 2 := by
    have h1 := Nu.length_le (k := na + nb + 2) (by rw [vu]; exact Nat.lt_of_le_of_lt (Nat.div_le_self _ _) (val_lt_of iq.dig (Nat.le_trans (Nat.le_of_eq iq.len) bq)))
    rw [ou.len] at h1; exact h1
  have iu := ou.toIn
  have Vu := hide vu
  clear vu vv ou ov iq it
  replace ip := ip.below hw
  replace HZ := Nat.le_trans HZ hw.size
  refine hK.out _ _ (keep4 (by assumption) hw) (fun hV5 => ?_)
  clear hK K
  try simp only [Act.put, List.setIfInBounds_toArray, List.set_cons_zero, List.set_cons_succ]
  clear hw
  refine wpAnyW_take (i := 8) (v := ?_) rfl (by kernel_rfl) (by kernel_rfl) (by kernel_rfl) (by kernel_rfl) (by kernel_rfl) (fun _ _ _ h => h) (Or.inl ⟨by rfl, ?_⟩) (by assumption) ?_
  rotate_left
  · (intro W1 hSw; (try dsimp only at hSw); go_simp; try with_reducible rfl)
  try simp only [Act.put, List.setIfInBounds_toArray, List.set_cons_zero, List.set_cons_succ]
  refine wpAnyW_take (i := 9) (v := ?_) rfl (by kernel_rfl) (by kernel_rfl) (by kernel_rfl) (by kernel_rfl) (by kernel_rfl) (fun _ _ _ h => h) (Or.inl ⟨by rfl, ?_⟩) (by assumption) ?_
  rotate_left
  · (intro W1 hSw; (try dsimp only at hSw); go_simp; try with_reducible rfl)
  try simp only [Act.put, List.setIfInBounds_toArray, List.set_cons_zero, List.set_cons_succ]
  refine wpAnyW_take (i := 10) (v := ?_) rfl (by kernel_rfl) (by kernel_rfl) (by kernel_rfl) (by kernel_rfl) (by kernel_rfl) (fun _ _ _ h => h) (Or.inl ⟨by rfl, ?_⟩) (by assumption) ?_
  rotate_left
  · (intro W1 hSw; (try dsimp only at hSw); go_simp; try with_reducible rfl)
  try simp only [Act.put, List.setIfInBounds_toArray, List.set_cons_zero, List.set_cons_succ]
  refine wpAnyW_take (i := 11) (v := ?_) rfl (by kernel_rfl) (by kernel_rfl) (by kernel_rfl) (by kernel_rfl) (by kernel_rfl) (fun _ _ _ h => h) (Or.inl ⟨by rfl, ?_⟩) (by assumption) ?_
  rotate_left
  · (intro W1 hSw; (try dsimp only at hSw); go_simp; try with_reducible rfl)
  try simp only [Act.put, List.setIfInBounds_toArray, List.set_cons_zero, List.set_cons_succ]
  refine wpAnyW_take (i := 12) (v := ?_) rfl (by kernel_rfl) (by kernel_rfl) (by kernel_rfl) (by kernel_rfl) (by kernel_rfl) (fun _ _ _ h => h) (Or.inl ⟨by rfl, ?_⟩) (by assumption) ?_
  rotate_left
  · (intro W1 hSw; (try dsimp only at hSw); go_simp; try with_reducible rfl)
  try simp only [Act.put, List.setIfInBounds_toArray, List.set_cons_zero, List.set_cons_succ]
  refine wpAnyW_take (i := 13) (v := ?_) rfl (by kernel_rfl) (by kernel_rfl) (by kernel_rfl) (by kernel_rfl) (by kernel_rfl) (fun _ _ _ h => h) (Or.inl ⟨by rfl, ?_⟩) (by assumption) ?_
  rotate_left
  · (intro W1 hSw; (try dsimp only at hSw); go_simp; try with_reducible rfl)
  try simp only [Act.put, List.setIfInBounds_toArray, List.set_cons_zero, List.set_cons_succ]
  refine wpAnyW_take (i := 14) (v := ?_) rfl (by kernel_rfl) (by kernel_rfl) (by kernel_rfl) (by kernel_rfl) (by kernel_rfl) (fun _ _ _ h => h) (Or.inl ⟨by rfl, ?_⟩) (by assumption) ?_
  rotate_left
  · (intro W1 hSw; (try dsimp only at hSw); go_simp; try with_reducible rfl)
  try simp only [Act.put, List.setIfInBounds_toArray, List.set_cons_zero, List.set_cons_succ]
  refine wpAnyW_done (by kernel_rfl) ?_ _
  refine NoPanic.normal ?_
  have FR := hide (to4 (by assumption))
  have hZ := hV5
  have c0_0 := hZ.1
  have c0_1 := hZ.2.1
  have c1_0 := hZ.2.2.1
  have c1_1 := hZ.2.2.2.1
  clear hZ
  have e9 : divE (val lt) = divEI xb := by rw [unhide Vt, shift_one]; unfold divE divEI; have h := ib.abs; by_cases e : xb = 0 <;> simp [e] <;> omega
  rw [e9]
  clear e9
  by_cases hy0 : xb = 0
  · have E9 : Hid (divEI xb = 9) := by show (if xb = 0 then (9 : Int) else 0) = 9; rw [if_pos hy0]
    have R0 : Hid (r = 0) := by show _ = _; rw [hr]; show (if xb = 0 then (0 : Int) else _) = 0; rw [if_pos hy0]
    have HK := hide hr
    have FR := unhide FR
    obtain ⟨⟨_, kg2_0, fg2_0⟩, ⟨_, kg2_1, fg2_1⟩⟩ := FR.two (g := w.heap.size + 1 + 1) (by simp)
    rw [unhide E9]
    clear hy0 hr
    go_wp2_with fail
    refine bodyPost_ret (v := .tuple #[.agg #[.bool false, .slice none 0 0], .int .i64 9]) (by simp [results, Try.results57, go_sem, kg2_0, fg2_0, kg2_1, fg2_1]) rfl ?_
    rw [← unhide HK, unhide E9, unhide R0]
    exact ⟨none, 0, 0, [], rfl, Norm.nil, Own.nil_, ⟨In.nil_, rfl, Nat.zero_le _⟩, ((FR.set (by simp; omega) _).set (by simp; omega) _).bel⟩
  · have E9 : Hid (divEI xb = 0) := by show (if xb = 0 then (9 : Int) else 0) = 0; rw [if_neg hy0]
    have hvb : val lb ≠ 0 := by intro h; apply hy0; rw [← ib.zi, h]; cases sb <;> rfl
    have HV := hide hvb
    have hrr : r = zi (!(sa == sb)) ((2 * val la + val lb) / (2 * val lb)) := by rw [hr, ← ia.zi, ← ib.zi]; exact rnd_signs _ _ _ _ hvb
    have HR := hide hrr
    have HK := hide hr
    rw [unhide E9]
    clear hy0 hr hvb hrr
    go_wp2_with fail
    refine (signed_c _ _).mono ?_
    rintro e w7 ⟨rfl, rfl⟩
    go_wp2_with fail
    refine (signed1_c (k := r) _ (iu.below (below_new _ _)) ((Blk.new _ _ _).cell 0) (by omega) (by rw [unhide Vu, unhide Vq, unhide Vp, unhide Vt, unhide HR, shift_one, shift_one]; congr 2 <;> omega)).mono ?_
    rintro e w8 ⟨Az, nz, cz, lz, rfl, Nz, vz, Oz, hw8⟩
    have hw : Below w5.heap.size w5 w8 := (below_new w5 _).trans (hw8.mono (by simp))
    have iz : II w8 (decide (r < 0)) Az nz cz lz r (Ka + 1) := ⟨Oz.toIn, zi_of r vz, k_len Nz vz Oz.toIn (unhide HL)⟩
    replace Oz := Oz.base (B' := w.heap.size + 3) (by simp; omega)
    replace c0_0 := keepc hw c0_0
    replace c0_1 := keepc hw c0_1
    replace c1_0 := keepc hw c1_0
    replace c1_1 := keepc hw c1_1
    replace FR := hide ((unhide FR).below hw)
    replace HZ := Nat.le_trans HZ hw.size
    clear hw vz hw8
    have FR := unhide FR
    obtain ⟨⟨_, kg2_0, fg2_0⟩, ⟨_, kg2_1, fg2_1⟩⟩ := FR.two (g := w.heap.size + 1 + 1) (by simp)
    go_wp2_with fail
    refine bodyPost_ret (v := .tuple #[.agg #[.bool (decide (r < 0)), .slice Az nz cz], .int .i64 0]) (by simp [results, Try.results57, go_sem, kg2_0, fg2_0, kg2_1, fg2_1]) rfl ?_
    rw [← unhide HK, unhide E9]
    have h0 : w.heap.size + 1 + 1 < w.heap.size + 3 := by omega
    exact ⟨Az, nz, cz, lz, rfl, Nz, (Oz.set2 h0).base (by omega), ⟨(Oz.set2 h0).toIn, iz.zi, k_len Nz iz.abs.symm Oz.toIn (unhide HL)⟩, ((FR.set (by simp; omega) _).set (by simp; omega) _).bel⟩

end Go.Proofs.Ytjdcolaefhheaaa
