/-
  The reference of chapter 2: DivMod.
-/
import Derived.Test.YtlpnjoenkohadaaIv
import Derived.Test.YtlpnjoenkohadaaHeldW
namespace Go.Proofs.Ytlpnjoenkohadaa
set_option linter.unusedVariables false
set_option linter.unusedSimpArgs false
open Go.RowKit
attribute [local go_sem ↓] Go.wp_at_zero Go.wp_at_succ

theorem fdiv_unique {x y q r : Int} (h : x = y * q + r) (hr : (0 ≤ r ∧ r < y) ∨ (y < r ∧ r ≤ 0)) : x.fdiv y = q ∧ x.fmod y = r := by
  have h1 : x.fdiv y = q := by
    rcases hr with ⟨h1, h2⟩ | ⟨h1, h2⟩
    · rw [Int.fdiv_eq_ediv_of_nonneg _ (by omega)]
      exact ((Int.ediv_emod_unique (by omega)).2 ⟨(by rw [h, Int.add_comm]), h1, h2⟩).1
    · rw [← Int.neg_fdiv_neg, Int.fdiv_eq_ediv_of_nonneg _ (by omega)]
      exact ((Int.ediv_emod_unique (r := -r) (by omega)).2 ⟨(by rw [h]; grind), by omega, by omega⟩).1
  refine ⟨h1, ?_⟩
  rw [Int.fmod_def, h1, h]; omega
theorem ref_dm (s t : Bool) (a b : Nat) (hb : b ≠ 0) :
    ((!(s == t)) = true ∧ a % b ≠ 0 → quoI (zi s a) (zi t b) = zi true (a / b) - 1 ∧ remI (zi s a) (zi t b) = zi s (a % b) + zi t b) ∧
    ((!(s == t)) = false ∨ a % b = 0 → quoI (zi s a) (zi t b) = zi (!(s == t)) (a / b) ∧ remI (zi s a) (zi t b) = zi s (a % b)) := by
  have h0 : zi t b ≠ 0 := by cases t <;> simp [zi] <;> omega
  have hd : (a : Int) = b * ((a / b : Nat) : Int) + ((a % b : Nat) : Int) := by
    have := Nat.div_add_mod a b
    rw [← Int.natCast_mul, ← Int.natCast_add, this]
  have hl : a % b < b := Nat.mod_lt _ (by omega)
  obtain ⟨q, hq⟩ : ∃ q, q = a / b := ⟨_, rfl⟩
  obtain ⟨r, hr⟩ : ∃ r, r = a % b := ⟨_, rfl⟩
  rw [← hq, ← hr] at hd
  rw [← hr] at hl
  rw [← hq, ← hr, quoI, remI, if_neg h0, if_neg h0]
  constructor
  · rintro ⟨h1, h2⟩
    refine fdiv_unique ?_ ?_
    · cases s <;> cases t <;> simp [zi] at * <;> rw [hd] <;> grind
    · cases s <;> cases t <;> simp [zi] at * <;> omega
  · intro h1
    refine fdiv_unique ?_ ?_
    · cases s <;> cases t <;> simp [zi] at * <;> rw [hd] <;> grind
    · cases s <;> cases t <;> simp [zi] at * <;> omega

set_option maxRecDepth 100000 in
set_option maxHeartbeats 4000000 in
theorem rdivmod_c {Aa Ab : Option Addr} {na ca nb cb : Nat} {la lb : List Nat} {sa sb : Bool} {xa xb : Int} {Ka Kb : Nat} (w : World) (ia : II w sa Aa na ca la xa Ka) (ib : II w sb Ab nb cb lb xb Kb) (hK : Ka ≤ 17179869184 ∧ Kb ≤ 17179869184) :
    Calls Try.prog 87 #[.agg #[.bool sa, .slice Aa na ca], .agg #[.bool sb, .slice Ab nb cb]] w (RetDII w xa xb Ka Kb) := by
  have hlq := quoI_lt (y := xb) ia.lt
  have hlr := remI_lt (x := xa) ib.lt
  have hna := ia.le
  have hnb := ib.le
  obtain ⟨k, hk⟩ : ∃ k, k = quoI xa xb := ⟨_, rfl⟩
  obtain ⟨r, hr⟩ : ∃ r, r = remI xa xb := ⟨_, rfl⟩
  unfold RetDII
  rw [← hk] at hlq
  rw [← hr] at hlr
  have HL := hide (And.intro hlq hlr)
  clear hlq hlr
  go_enter Try.func87, Try.ntmps87
  go_wp2_with fail
  obtain ⟨w0, hw0⟩ : ∃ w0, w0 = ((((w.alloc (.cells #[.bool sa, .slice Aa na ca] 31)).alloc (.cells #[.bool sb, .slice Ab nb cb] 31)).alloc (.cells #[.bool false, .slice none 0 0] 31)).alloc (.cells #[.bool false, .slice none 0 0] 31)) := ⟨_, rfl⟩
  have kw00 : Blk w0 (w.heap.size) 31 #[.bool sa, .slice Aa na ca] := by rw [hw0]; exact allocs_blk [(#[.bool sa, .slice Aa na ca], 31), (#[.bool sb, .slice Ab nb cb], 31), (#[.bool false, .slice none 0 0], 31), (#[.bool false, .slice none 0 0], 31)] w 0 _ _ rfl
  have kw01 : Blk w0 (w.heap.size + 1) 31 #[.bool sb, .slice Ab nb cb] := by rw [hw0]; exact allocs_blk [(#[.bool sa, .slice Aa na ca], 31), (#[.bool sb, .slice Ab nb cb], 31), (#[.bool false, .slice none 0 0], 31), (#[.bool false, .slice none 0 0], 31)] w 1 _ _ rfl
  have kw02 : Blk w0 (w.heap.size + 1 + 1) 31 #[.bool false, .slice none 0 0] := by rw [hw0]; exact allocs_blk [(#[.bool sa, .slice Aa na ca], 31), (#[.bool sb, .slice Ab nb cb], 31), (#[.bool false, .slice none 0 0], 31), (#[.bool false, .slice none 0 0], 31)] w 2 _ _ rfl
  have kw03 : Blk w0 (w.heap.size + 1 + 1 + 1) 31 #[.bool false, .slice none 0 0] := by rw [hw0]; exact allocs_blk [(#[.bool sa, .slice Aa na ca], 31), (#[.bool sb, .slice Ab nb cb], 31), (#[.bool false, .slice none 0 0], 31), (#[.bool false, .slice none 0 0], 31)] w 3 _ _ rfl
  have FR : Fr w [(w.heap.size + 1 + 1, 2), (w.heap.size + 1 + 1 + 1, 2)] w0 := Fr.cons (Fr.cons ((⟨by rw [hw0]; exact allocs_below [(#[.bool sa, .slice Aa na ca], 31), (#[.bool sb, .slice Ab nb cb], 31), (#[.bool false, .slice none 0 0], 31), (#[.bool false, .slice none 0 0], 31)] w, fun _ h => by cases h⟩ : Fr w [] w0)) (g := w.heap.size + 1 + 1 + 1) (k := 2) (by omega) (.of_blk kw03 rfl)) (g := w.heap.size + 1 + 1) (k := 2) (by omega) (.of_blk kw02 rfl)
  have sw0 : w0.heap.size = w.heap.size + 4 := by rw [hw0]; exact allocs_size [(#[.bool sa, .slice Aa na ca], 31), (#[.bool sb, .slice Ab nb cb], 31), (#[.bool false, .slice none 0 0], 31), (#[.bool false, .slice none 0 0], 31)] w
  rw [← hw0]
  clear hw0
  have c0_0 := kw00.cell 0
  have c0_1 := kw00.cell 1
  have c1_0 := kw01.cell 0
  have c1_1 := kw01.cell 1
  replace FR := hide FR
  have HZ : w.heap.size + 4 ≤ w0.heap.size := by omega
  clear sw0 kw00 kw01 kw02 kw03
  go_wp2_with fail
  refine (rsign_v _ ((unhide FR).ii ib) (by omega)).mono ?_
  rintro e w2 ⟨rfl, hw⟩
  replace c0_0 := keepc hw c0_0
  replace c0_1 := keepc hw c0_1
  replace c1_0 := keepc hw c1_0
  replace c1_1 := keepc hw c1_1
  replace FR := hide ((unhide FR).below hw)
  replace HZ := Nat.le_trans HZ hw.size
  clear hw
  by_cases hy0 : xb = 0
  · have K0 : Hid (sgn xb = 0) := by show _ = _; rw [hy0]; rfl
    have E9 : Hid (divEI xb = 9) := by show (if xb = 0 then (9 : Int) else 0) = 9; rw [if_pos hy0]
    have Q0 : Hid (k = 0) := by show _ = _; rw [hk]; show (if xb = 0 then (0 : Int) else _) = 0; rw [if_pos hy0]
    have R0 : Hid (r = 0) := by show _ = _; rw [hr]; show (if xb = 0 then (0 : Int) else _) = 0; rw [if_pos hy0]
    rw [unhide K0]
    have HK := hide (And.intro hk hr)
    clear hy0 hk hr
    have FR := unhide FR
    obtain ⟨⟨_, kg2_0, fg2_0⟩, ⟨_, kg2_1, fg2_1⟩⟩ := FR.two (g := w.heap.size + 1 + 1) (by simp)
    obtain ⟨⟨_, kg3_0, fg3_0⟩, ⟨_, kg3_1, fg3_1⟩⟩ := FR.two (g := w.heap.size + 1 + 1 + 1) (by simp)
    go_wp2_with fail
    refine bodyPost_ret (v := .tuple #[.agg #[.bool false, .slice none 0 0], .agg #[.bool false, .slice none 0 0], .int .i64 9]) (by simp [results, Try.results87, go_sem, kg2_0, fg2_0, kg2_1, fg2_1, kg3_0, fg3_0, kg3_1, fg3_1]) rfl ?_
    rw [← (unhide HK).1, ← (unhide HK).2, unhide E9, unhide Q0, unhide R0]
    refine ⟨none, 0, 0, [], none, 0, 0, [], rfl, Norm.nil, Own.nil_, ⟨In.nil_, rfl, Nat.zero_le _⟩, Norm.nil, Own.nil_, ⟨In.nil_, rfl, Nat.zero_le _⟩, ?_⟩
    exact ((((FR.set (by simp; omega) _).set (by simp; omega) _).set (by simp; omega) _).set (by simp; omega) _).bel
  · have K0 : ((sgn xb == 0)) = false := by unfold sgn; split <;> simp [hy0]
    have E9 : Hid (divEI xb = 0) := by show (if xb = 0 then (9 : Int) else 0) = 0; rw [if_neg hy0]
    have hvb : val lb ≠ 0 := by intro h; apply hy0; rw [← ib.zi, h]; cases sb <;> rfl
    have HY := hide (And.intro hk hr)
    have HV := hide hvb
    clear hy0 hk hr hvb
    go_wp2_with fail
    refine (refDivmod_c _ ((unhide FR).ii ia).inn ((unhide FR).ii ib).inn (by omega) (by omega)).mono ?_
    rintro e w3 ⟨A3, n3, c3, l3, A4, n4, c4, l4, rfl, N3, v3, N4, v4, o3, o4, hw⟩
    replace c0_0 := keepc hw c0_0
    replace c0_1 := keepc hw c0_1
    replace c1_0 := keepc hw c1_0
    replace c1_1 := keepc hw c1_1
    replace FR := hide ((unhide FR).below hw)
    replace HZ := Nat.le_trans HZ hw.size
    have b3 : n3 ≤ na := by
      have h1 := N3.length_le (k := na) (by rw [v3]; exact Nat.lt_of_le_of_lt (Nat.div_le_self _ _) (val_lt_of ia.inn.dig (Nat.le_of_eq ia.inn.len)))
      rw [o3.len] at h1; exact h1
    have b4 : n4 ≤ na := by
      have h1 := N4.length_le (k := na) (by rw [v4]; exact Nat.lt_of_le_of_lt (modN_le _ _) (val_lt_of ia.inn.dig (Nat.le_of_eq ia.inn.len)))
      rw [o4.len] at h1; exact h1
    rw [modN_pos (unhide HV)] at v4
    have V34 := hide (And.intro v3 v4)
    have i3 := o3.toIn
    have i4 := o4.toIn
    clear v3 v4 hw o3 o4
    go_wp2_with fail
    refine (rnew_v (K := Ka) _ (x := zi (!(sa == sb)) (val l3)) ⟨i3, rfl, Nat.le_trans b3 hna⟩ (Nat.le_refl _) (by omega)).mono ?_
    rintro e w4 ⟨A5, n5, c5, l5, rfl, N5, O5, i5, hw⟩
    replace O5 := O5.base (B' := w.heap.size + 4) HZ
    replace c0_0 := keepc hw c0_0
    replace c0_1 := keepc hw c0_1
    replace c1_0 := keepc hw c1_0
    replace c1_1 := keepc hw c1_1
    replace FR := hide ((unhide FR).below hw)
    replace HZ := Nat.le_trans HZ hw.size
    replace i4 := i4.below hw
    clear hw
    obtain ⟨p, hp⟩ : ∃ p, p = zi (!(sa == sb)) (val l3) := ⟨_, rfl⟩
    rw [← hp]
    rw [← hp] at i5
    have HP := hide hp
    clear hp
    have hnew := below_new w4 (.cells #[.bool (decide (p < 0)), .slice A5 n5 c5] 31)
    have kG := Blk.new w4 31 #[.bool (decide (p < 0)), .slice A5 n5 c5]
    have zG := HZ
    replace c0_0 := keepc hnew c0_0
    replace c0_1 := keepc hnew c0_1
    replace c1_0 := keepc hnew c1_0
    replace c1_1 := keepc hnew c1_1
    replace FR := hide ((unhide FR).below hnew)
    replace O5 := O5.below hnew
    replace i5 := i5.below hnew
    replace i4 := i4.below hnew
    replace HZ := Nat.le_trans HZ hnew.size
    have cG_0 := kG.cell 0
    have cG_1 := kG.cell 1
    clear hnew kG
    go_wp2_with fail
    obtain ⟨w5, hn⟩ : ∃ w5, w5 = w4.alloc (.cells #[.bool (decide (p < 0)), .slice A5 n5 c5] 31) := ⟨_, rfl⟩
    rw [← hn] at c0_0 c0_1 c1_0 c1_1 cG_0 cG_1 FR O5 i5 i4 HZ
    rw [← hn]
    clear hn
    obtain ⟨G, hg⟩ : ∃ G, G = w4.heap.size := ⟨_, rfl⟩
    rw [← hg] at cG_0 cG_1 zG
    rw [← hg]
    clear hg
    refine (rnew_v (K := Ka) _ (x := zi sa (val l4)) ⟨i4, rfl, Nat.le_trans b4 hna⟩ (Nat.le_refl _) (by omega)).mono ?_
    rintro e w6 ⟨A6, n6, c6, l6, rfl, N6, O6, i6, hw⟩
    replace O6 := O6.base (B' := w.heap.size + 4) HZ
    replace c0_0 := keepc hw c0_0
    replace c0_1 := keepc hw c0_1
    replace c1_0 := keepc hw c1_0
    replace c1_1 := keepc hw c1_1
    replace cG_0 := keepc hw cG_0
    replace cG_1 := keepc hw cG_1
    replace FR := hide ((unhide FR).below hw)
    replace O5 := O5.below hw
    replace i5 := i5.below hw
    replace i4 := i4.below hw
    replace HZ := Nat.le_trans HZ hw.size
    clear i4
    clear hw
    obtain ⟨u, hu⟩ : ∃ u, u = zi sa (val l4) := ⟨_, rfl⟩
    rw [← hu]
    rw [← hu] at i6
    have HU := hide hu
    have D := ref_dm sa sb (val la) (val lb) (unhide HV)
    rw [ia.zi, ib.zi, ← (unhide V34).1, ← (unhide V34).2] at D
    have HD := hide D
    have hu0 : u = 0 ↔ val l4 = 0 := by rw [hu]; cases sa <;> simp [zi]
    have H0 := hide hu0
    clear hu D hu0
    have hcase : (!(sa == sb)) = false ∨ ((!(sa == sb)) = true ∧ u = 0) ∨ ((!(sa == sb)) = true ∧ u ≠ 0) := by
      by_cases h1 : (!(sa == sb)) = true
      · by_cases h2 : u = 0
        · exact .inr (.inl ⟨h1, h2⟩)
        · exact .inr (.inr ⟨h1, h2⟩)
      · exact .inl (by simpa using h1)
    rcases hcase with hσ | ⟨hσ, hu⟩ | ⟨hσ, hu⟩
    · skip
      have hnew := below_new w6 (.cells #[.bool (decide (u < 0)), .slice A6 n6 c6] 31)
      have kG := Blk.new w6 31 #[.bool (decide (u < 0)), .slice A6 n6 c6]
      have zH := HZ
      replace c0_0 := keepc hnew c0_0
      replace c0_1 := keepc hnew c0_1
      replace c1_0 := keepc hnew c1_0
      replace c1_1 := keepc hnew c1_1
      replace cG_0 := keepc hnew cG_0
      replace cG_1 := keepc hnew cG_1
      replace FR := hide ((unhide FR).below hnew)
      replace O5 := O5.below hnew
      replace i5 := i5.below hnew
      replace O6 := O6.below hnew
      replace i6 := i6.below hnew
      replace HZ := Nat.le_trans HZ hnew.size
      have cH_0 := kG.cell 0
      have cH_1 := kG.cell 1
      clear hnew kG
      go_wp2_with fail
      obtain ⟨w7, hn⟩ : ∃ w7, w7 = w6.alloc (.cells #[.bool (decide (u < 0)), .slice A6 n6 c6] 31) := ⟨_, rfl⟩
      rw [← hn] at c0_0 c0_1 c1_0 c1_1 cG_0 cG_1 cH_0 cH_1 FR O5 i5 O6 i6 HZ
      rw [← hn]
      clear hn
      obtain ⟨H, hg⟩ : ∃ H, H = w6.heap.size := ⟨_, rfl⟩
      rw [← hg] at cH_0 cH_1 zH
      rw [← hg]
      clear hg
      have HE : Hid (p = k ∧ u = r) := by
        obtain ⟨h1, h2⟩ := (unhide HD).2 (.inl hσ)
        exact ⟨by rw [unhide HP, (unhide HY).1]; exact h1.symm, by rw [unhide HU, (unhide HY).2]; exact h2.symm⟩
      have FR0 := unhide FR
      obtain ⟨⟨_, kg2_0, fg2_0⟩, ⟨_, kg2_1, fg2_1⟩⟩ := FR0.two (g := w.heap.size + 1 + 1) (by simp)
      obtain ⟨⟨_, kg3_0, fg3_0⟩, ⟨_, kg3_1, fg3_1⟩⟩ := FR0.two (g := w.heap.size + 1 + 1 + 1) (by simp)
      have hS := And.intro c0_0 (And.intro c0_1 (And.intro c1_0 (And.intro c1_1 (And.intro cG_0 (And.intro cG_1 (And.intro cH_0 (And.intro cH_1 (FR))))))))
      clear c0_0 c0_1 c1_0 c1_1 cG_0 cG_1 cH_0 cH_1 FR
      refine wp_region_noPanic ?_
      refine wp_region_W (S := fun w' => w'.cell? ⟨w.heap.size, 0, none⟩ = some (.bool sa) ∧ w'.cell? ⟨w.heap.size, 1, none⟩ = some (.slice Aa na ca) ∧ w'.cell? ⟨w.heap.size + 1, 0, none⟩ = some (.bool sb) ∧ w'.cell? ⟨w.heap.size + 1, 1, none⟩ = some (.slice Ab nb cb) ∧ w'.cell? ⟨G, 0, none⟩ = some (.bool (decide (p < 0))) ∧ w'.cell? ⟨G, 1, none⟩ = some (.slice A5 n5 c5) ∧ w'.cell? ⟨H, 0, none⟩ = some (.bool (decide (u < 0))) ∧ w'.cell? ⟨H, 1, none⟩ = some (.slice A6 n6 c6) ∧ Hid (Fr w [(w.heap.size + 1 + 1, 2), (w.heap.size + 1 + 1 + 1, 2)] w')) (T := fun i => i == 1000) (by kernel_rfl) (drew8 hS) (fun hW0 => ?_)
      refine wpAnyW_take (i := 0) (v := ?_) rfl (by kernel_rfl) (by kernel_rfl) (by kernel_rfl) (by kernel_rfl) (by kernel_rfl) (fun _ _ _ h => h) (Or.inl ⟨by rfl, ?_⟩) (by assumption) ?_
      rotate_left
      · (intro W1 hSw; (try dsimp only at hSw); go_simp; try with_reducible rfl)
      try simp only [Act.put, List.setIfInBounds_toArray, List.set_cons_zero, List.set_cons_succ]
      refine wpAnyW_take (i := 1) (v := ?_) rfl (by kernel_rfl) (by kernel_rfl) (by kernel_rfl) (by kernel_rfl) (by kernel_rfl) (fun _ _ _ h => h) (Or.inl ⟨by rfl, ?_⟩) (by assumption) ?_
      rotate_left
      · (intro W1 hSw; (try dsimp only at hSw); go_simp; try with_reducible rfl)
      try simp only [Act.put, List.setIfInBounds_toArray, List.set_cons_zero, List.set_cons_succ]
      refine wpAnyW_ready (rs := [2]) (by kernel_rfl) (by simp) (AllReadyW.cons rfl rfl (fun K hK => ?_) AllReadyW.nil)
      go_simp
      refine hK.out _ _ (drew8 (stor8 (stor8 hS (by simp <;> omega)) (by simp <;> omega))) (fun hVs => ?_)
      clear hK K hVs
      try simp only [Act.put, List.setIfInBounds_toArray, List.set_cons_zero, List.set_cons_succ]
      refine wpAnyW_ready (rs := [3]) (by kernel_rfl) (by simp) (AllReadyW.cons rfl rfl (fun K hK => ?_) AllReadyW.nil)
      go_simp
      refine hK.out _ _ (drew8 (stor8 (stor8 (stor8 (stor8 hS (by simp <;> omega)) (by simp <;> omega)) (by simp <;> omega)) (by simp <;> omega))) (fun hVs => ?_)
      clear hK K hVs
      try simp only [Act.put, List.setIfInBounds_toArray, List.set_cons_zero, List.set_cons_succ]
      refine wpAnyW_ready (rs := [4]) (by kernel_rfl) (by simp) (AllReadyW.cons rfl rfl (fun K hK => ?_) AllReadyW.nil)
      go_simp
      refine hK.out _ _ (drew8 (stor8 (stor8 (stor8 (stor8 hS (by simp <;> omega)) (by simp <;> omega)) (by simp <;> omega)) (by simp <;> omega))) (fun hVs => ?_)
      clear hK K hVs
      try simp only [Act.put, List.setIfInBounds_toArray, List.set_cons_zero, List.set_cons_succ]
      refine wpAnyW_done (by kernel_rfl) ?_ _
      refine NoPanic.normal ?_
      go_wp2_with fail
      refine bodyPost_ret (v := .tuple #[.agg #[.bool (decide (p < 0)), .slice A5 n5 c5], .agg #[.bool (decide (u < 0)), .slice A6 n6 c6], .int .i64 0]) (by simp [results, Try.results87, go_sem, kg2_0, fg2_0, kg2_1, fg2_1, kg3_0, fg3_0, kg3_1, fg3_1]) rfl ?_
      obtain ⟨rfl, rfl⟩ := unhide HE
      rw [← (unhide HY).1, ← (unhide HY).2, unhide E9]
      have h0 : w.heap.size + 1 + 1 < w.heap.size + 4 := by omega
      have h1 : w.heap.size + 1 + 1 + 1 < w.heap.size + 4 := by omega
      refine ⟨A5, n5, c5, l5, A6, n6, c6, l6, rfl, N5, ((O5.set4 h0 h1).drew).base (by omega), ⟨((O5.set4 h0 h1).drew).toIn, i5.zi, k_len N5 i5.abs.symm O5.toIn (unhide HL).1⟩, N6, ((O6.set4 h0 h1).drew).base (by omega), ⟨((O6.set4 h0 h1).drew).toIn, i6.zi, k_len N6 i6.abs.symm O6.toIn (unhide HL).2⟩, ?_⟩
      exact ((((FR0.set (by simp; omega) _).set (by simp; omega) _).set (by simp; omega) _).set (by simp; omega) _).drew.bel
    · have K1 : Hid (sgn u = 0) := by show _ = _; rw [hu]; rfl
      have HW := hide hu
      clear hu
      have hnew := below_new w6 (.cells #[.bool (decide (u < 0)), .slice A6 n6 c6] 31)
      have kG := Blk.new w6 31 #[.bool (decide (u < 0)), .slice A6 n6 c6]
      have zH := HZ
      replace c0_0 := keepc hnew c0_0
      replace c0_1 := keepc hnew c0_1
      replace c1_0 := keepc hnew c1_0
      replace c1_1 := keepc hnew c1_1
      replace cG_0 := keepc hnew cG_0
      replace cG_1 := keepc hnew cG_1
      replace FR := hide ((unhide FR).below hnew)
      replace O5 := O5.below hnew
      replace i5 := i5.below hnew
      replace O6 := O6.below hnew
      replace i6 := i6.below hnew
      replace HZ := Nat.le_trans HZ hnew.size
      have cH_0 := kG.cell 0
      have cH_1 := kG.cell 1
      clear hnew kG
      go_wp2_with fail
      obtain ⟨w7, hn⟩ : ∃ w7, w7 = w6.alloc (.cells #[.bool (decide (u < 0)), .slice A6 n6 c6] 31) := ⟨_, rfl⟩
      rw [← hn] at c0_0 c0_1 c1_0 c1_1 cG_0 cG_1 cH_0 cH_1 FR O5 i5 O6 i6 HZ
      rw [← hn]
      clear hn
      obtain ⟨H, hg⟩ : ∃ H, H = w6.heap.size := ⟨_, rfl⟩
      rw [← hg] at cH_0 cH_1 zH
      rw [← hg]
      clear hg
      refine (rsign_v _ i6 (by omega)).mono ?_
      rintro e w9 ⟨rfl, hw⟩
      replace c0_0 := keepc hw c0_0
      replace c0_1 := keepc hw c0_1
      replace c1_0 := keepc hw c1_0
      replace c1_1 := keepc hw c1_1
      replace cG_0 := keepc hw cG_0
      replace cG_1 := keepc hw cG_1
      replace cH_0 := keepc hw cH_0
      replace cH_1 := keepc hw cH_1
      replace FR := hide ((unhide FR).below hw)
      replace O5 := O5.below hw
      replace i5 := i5.below hw
      replace O6 := O6.below hw
      replace i6 := i6.below hw
      replace HZ := Nat.le_trans HZ hw.size
      clear hw
      rw [unhide K1]
      go_wp2_with fail
      have HE : Hid (p = k ∧ u = r) := by
        obtain ⟨h1, h2⟩ := (unhide HD).2 (.inr ((unhide H0).1 (unhide HW)))
        exact ⟨by rw [unhide HP, (unhide HY).1]; exact h1.symm, by rw [unhide HU, (unhide HY).2]; exact h2.symm⟩
      have FR0 := unhide FR
      obtain ⟨⟨_, kg2_0, fg2_0⟩, ⟨_, kg2_1, fg2_1⟩⟩ := FR0.two (g := w.heap.size + 1 + 1) (by simp)
      obtain ⟨⟨_, kg3_0, fg3_0⟩, ⟨_, kg3_1, fg3_1⟩⟩ := FR0.two (g := w.heap.size + 1 + 1 + 1) (by simp)
      have hS := And.intro c0_0 (And.intro c0_1 (And.intro c1_0 (And.intro c1_1 (And.intro cG_0 (And.intro cG_1 (And.intro cH_0 (And.intro cH_1 (FR))))))))
      clear c0_0 c0_1 c1_0 c1_1 cG_0 cG_1 cH_0 cH_1 FR
      refine wp_region_noPanic ?_
      refine wp_region_W (S := fun w' => w'.cell? ⟨w.heap.size, 0, none⟩ = some (.bool sa) ∧ w'.cell? ⟨w.heap.size, 1, none⟩ = some (.slice Aa na ca) ∧ w'.cell? ⟨w.heap.size + 1, 0, none⟩ = some (.bool sb) ∧ w'.cell? ⟨w.heap.size + 1, 1, none⟩ = some (.slice Ab nb cb) ∧ w'.cell? ⟨G, 0, none⟩ = some (.bool (decide (p < 0))) ∧ w'.cell? ⟨G, 1, none⟩ = some (.slice A5 n5 c5) ∧ w'.cell? ⟨H, 0, none⟩ = some (.bool (decide (u < 0))) ∧ w'.cell? ⟨H, 1, none⟩ = some (.slice A6 n6 c6) ∧ Hid (Fr w [(w.heap.size + 1 + 1, 2), (w.heap.size + 1 + 1 + 1, 2)] w')) (T := fun i => i == 1000) (by kernel_rfl) (drew8 hS) (fun hW0 => ?_)
      refine wpAnyW_take (i := 0) (v := ?_) rfl (by kernel_rfl) (by kernel_rfl) (by kernel_rfl) (by kernel_rfl) (by kernel_rfl) (fun _ _ _ h => h) (Or.inl ⟨by rfl, ?_⟩) (by assumption) ?_
      rotate_left
      · (intro W1 hSw; (try dsimp only at hSw); go_simp; try with_reducible rfl)
      try simp only [Act.put, List.setIfInBounds_toArray, List.set_cons_zero, List.set_cons_succ]
      refine wpAnyW_take (i := 1) (v := ?_) rfl (by kernel_rfl) (by kernel_rfl) (by kernel_rfl) (by kernel_rfl) (by kernel_rfl) (fun _ _ _ h => h) (Or.inl ⟨by rfl, ?_⟩) (by assumption) ?_
      rotate_left
      · (intro W1 hSw; (try dsimp only at hSw); go_simp; try with_reducible rfl)
      try simp only [Act.put, List.setIfInBounds_toArray, List.set_cons_zero, List.set_cons_succ]
      refine wpAnyW_ready (rs := [2]) (by kernel_rfl) (by simp) (AllReadyW.cons rfl rfl (fun K hK => ?_) AllReadyW.nil)
      go_simp
      refine hK.out _ _ (drew8 (stor8 (stor8 hS (by simp <;> omega)) (by simp <;> omega))) (fun hVs => ?_)
      clear hK K hVs
      try simp only [Act.put, List.setIfInBounds_toArray, List.set_cons_zero, List.set_cons_succ]
      refine wpAnyW_ready (rs := [3]) (by kernel_rfl) (by simp) (AllReadyW.cons rfl rfl (fun K hK => ?_) AllReadyW.nil)
      go_simp
      refine hK.out _ _ (drew8 (stor8 (stor8 (stor8 (stor8 hS (by simp <;> omega)) (by simp <;> omega)) (by simp <;> omega)) (by simp <;> omega))) (fun hVs => ?_)
      clear hK K hVs
      try simp only [Act.put, List.setIfInBounds_toArray, List.set_cons_zero, List.set_cons_succ]
      refine wpAnyW_ready (rs := [4]) (by kernel_rfl) (by simp) (AllReadyW.cons rfl rfl (fun K hK => ?_) AllReadyW.nil)
      go_simp
      refine hK.out _ _ (drew8 (stor8 (stor8 (stor8 (stor8 hS (by simp <;> omega)) (by simp <;> omega)) (by simp <;> omega)) (by simp <;> omega))) (fun hVs => ?_)
      clear hK K hVs
      try simp only [Act.put, List.setIfInBounds_toArray, List.set_cons_zero, List.set_cons_succ]
      refine wpAnyW_done (by kernel_rfl) ?_ _
      refine NoPanic.normal ?_
      go_wp2_with fail
      refine bodyPost_ret (v := .tuple #[.agg #[.bool (decide (p < 0)), .slice A5 n5 c5], .agg #[.bool (decide (u < 0)), .slice A6 n6 c6], .int .i64 0]) (by simp [results, Try.results87, go_sem, kg2_0, fg2_0, kg2_1, fg2_1, kg3_0, fg3_0, kg3_1, fg3_1]) rfl ?_
      obtain ⟨rfl, rfl⟩ := unhide HE
      rw [← (unhide HY).1, ← (unhide HY).2, unhide E9]
      have h0 : w.heap.size + 1 + 1 < w.heap.size + 4 := by omega
      have h1 : w.heap.size + 1 + 1 + 1 < w.heap.size + 4 := by omega
      refine ⟨A5, n5, c5, l5, A6, n6, c6, l6, rfl, N5, ((O5.set4 h0 h1).drew).base (by omega), ⟨((O5.set4 h0 h1).drew).toIn, i5.zi, k_len N5 i5.abs.symm O5.toIn (unhide HL).1⟩, N6, ((O6.set4 h0 h1).drew).base (by omega), ⟨((O6.set4 h0 h1).drew).toIn, i6.zi, k_len N6 i6.abs.symm O6.toIn (unhide HL).2⟩, ?_⟩
      exact ((((FR0.set (by simp; omega) _).set (by simp; omega) _).set (by simp; omega) _).set (by simp; omega) _).drew.bel
    · have K1 : (sgn u == 0) = false := by unfold sgn; split <;> simp [hu]
      have HW := hide hu
      clear hu
      have hnew := below_new w6 (.cells #[.bool (decide (u < 0)), .slice A6 n6 c6] 31)
      have kG := Blk.new w6 31 #[.bool (decide (u < 0)), .slice A6 n6 c6]
      have zH := HZ
      replace c0_0 := keepc hnew c0_0
      replace c0_1 := keepc hnew c0_1
      replace c1_0 := keepc hnew c1_0
      replace c1_1 := keepc hnew c1_1
      replace cG_0 := keepc hnew cG_0
      replace cG_1 := keepc hnew cG_1
      replace FR := hide ((unhide FR).below hnew)
      replace O5 := O5.below hnew
      replace i5 := i5.below hnew
      replace O6 := O6.below hnew
      replace i6 := i6.below hnew
      replace HZ := Nat.le_trans HZ hnew.size
      have cH_0 := kG.cell 0
      have cH_1 := kG.cell 1
      clear hnew kG
      go_wp2_with fail
      obtain ⟨w7, hn⟩ : ∃ w7, w7 = w6.alloc (.cells #[.bool (decide (u < 0)), .slice A6 n6 c6] 31) := ⟨_, rfl⟩
      rw [← hn] at c0_0 c0_1 c1_0 c1_1 cG_0 cG_1 cH_0 cH_1 FR O5 i5 O6 i6 HZ
      rw [← hn]
      clear hn
      obtain ⟨H, hg⟩ : ∃ H, H = w6.heap.size := ⟨_, rfl⟩
      rw [← hg] at cH_0 cH_1 zH
      rw [← hg]
      clear hg
      refine (rsign_v _ i6 (by omega)).mono ?_
      rintro e w9 ⟨rfl, hw⟩
      replace c0_0 := keepc hw c0_0
      replace c0_1 := keepc hw c0_1
      replace c1_0 := keepc hw c1_0
      replace c1_1 := keepc hw c1_1
      replace cG_0 := keepc hw cG_0
      replace cG_1 := keepc hw cG_1
      replace cH_0 := keepc hw cH_0
      replace cH_1 := keepc hw cH_1
      replace FR := hide ((unhide FR).below hw)
      replace O5 := O5.below hw
      replace i5 := i5.below hw
      replace O6 := O6.below hw
      replace i6 := i6.below hw
      replace HZ := Nat.le_trans HZ hw.size
      clear hw
      go_wp2_with fail
      have hS := And.intro c0_0 (And.intro c0_1 (And.intro c1_0 (And.intro c1_1 (And.intro cG_0 (And.intro cG_1 (And.intro cH_0 (And.intro cH_1 (FR))))))))
      clear c0_0 c0_1 c1_0 c1_1 cG_0 cG_1 cH_0 cH_1 FR
      refine wp_region_noPanic ?_
      refine wp_region_W (S := fun w' => w'.cell? ⟨w.heap.size, 0, none⟩ = some (.bool sa) ∧ w'.cell? ⟨w.heap.size, 1, none⟩ = some (.slice Aa na ca) ∧ w'.cell? ⟨w.heap.size + 1, 0, none⟩ = some (.bool sb) ∧ w'.cell? ⟨w.heap.size + 1, 1, none⟩ = some (.slice Ab nb cb) ∧ w'.cell? ⟨G, 0, none⟩ = some (.bool (decide (p < 0))) ∧ w'.cell? ⟨G, 1, none⟩ = some (.slice A5 n5 c5) ∧ w'.cell? ⟨H, 0, none⟩ = some (.bool (decide (u < 0))) ∧ w'.cell? ⟨H, 1, none⟩ = some (.slice A6 n6 c6) ∧ Hid (Fr w [(w.heap.size + 1 + 1, 2), (w.heap.size + 1 + 1 + 1, 2)] w')) (T := fun i => i == 6 || i == 7 || i == 8) (by kernel_rfl) (drew8 hS) (fun hW0 => ?_)
      clear hS
      replace O5 := O5.drew
      replace i5 := i5.drew
      replace O6 := O6.drew
      replace i6 := i6.drew
      refine wpAnyW_take (i := 0) (v := ?_) rfl (by kernel_rfl) (by kernel_rfl) (by kernel_rfl) (by kernel_rfl) (by kernel_rfl) (fun _ _ _ h => h) (Or.inl ⟨by rfl, ?_⟩) (by assumption) ?_
      rotate_left
      · (intro W1 hSw; (try dsimp only at hSw); go_simp; try with_reducible rfl)
      try simp only [Act.put, List.setIfInBounds_toArray, List.set_cons_zero, List.set_cons_succ]
      refine wpAnyW_take (i := 3) (v := ?_) rfl (by kernel_rfl) (by kernel_rfl) (by kernel_rfl) (by kernel_rfl) (by kernel_rfl) (fun _ _ _ h => h) (Or.inl ⟨by rfl, ?_⟩) (by assumption) ?_
      rotate_left
      · (intro W1 hSw; (try dsimp only at hSw); go_simp; try with_reducible rfl)
      try simp only [Act.put, List.setIfInBounds_toArray, List.set_cons_zero, List.set_cons_succ]
      refine wpAnyW_take (i := 4) (v := ?_) rfl (by kernel_rfl) (by kernel_rfl) (by kernel_rfl) (by kernel_rfl) (by kernel_rfl) (fun _ _ _ h => h) (Or.inl ⟨by rfl, ?_⟩) (by assumption) ?_
      rotate_left
      · (intro W1 hSw; (try dsimp only at hSw); go_simp; try with_reducible rfl)
      try simp only [Act.put, List.setIfInBounds_toArray, List.set_cons_zero, List.set_cons_succ]
      refine wpAnyW_ready (rs := [1]) (by kernel_rfl) (by simp) (AllReadyW.cons rfl rfl (fun K hK => ?_) AllReadyW.nil)
      go_simp
      refine (rfromInt_v (K := 2) 1 _ (by omega) (by omega) (by omega)).mono ?_
      rintro e w10 ⟨Am, nm, cm, lm, rfl, Nm, Om, im, hw⟩
      replace Om := Om.base (B' := w.heap.size + 4) HZ
      replace O5 := O5.below hw
      replace i5 := i5.below hw
      replace O6 := O6.below hw
      replace i6 := i6.below hw
      replace HZ := Nat.le_trans HZ hw.size
      refine hK.out _ _ (keep8 (by assumption) hw) (fun hV10 => ?_)
      clear hK K
      try simp only [Act.put, List.setIfInBounds_toArray, List.set_cons_zero, List.set_cons_succ]
      clear hw
      refine wpAnyW_ready (rs := [2]) (by kernel_rfl) (by simp) (AllReadyW.cons rfl rfl (fun K hK => ?_) AllReadyW.nil)
      go_simp
      refine (rsub_v (K := (Ka + 3)) _ i5 im (by omega)).mono ?_
      rintro e w11 ⟨Aq, nq, cq, lq, rfl, Nq, Oq, iq, hw⟩
      replace Oq := Oq.base (B' := w.heap.size + 4) HZ
      replace O5 := O5.below hw
      replace i5 := i5.below hw
      replace O6 := O6.below hw
      replace i6 := i6.below hw
      replace Om := Om.below hw
      replace im := im.below hw
      replace HZ := Nat.le_trans HZ hw.size
      refine hK.out _ _ (keep8 (by assumption) hw) (fun hV11 => ?_)
      clear hK K
      try simp only [Act.put, List.setIfInBounds_toArray, List.set_cons_zero, List.set_cons_succ]
      clear hw
      refine wpAnyW_ready (rs := [5]) (by kernel_rfl) (by simp) (AllReadyW.cons rfl rfl (fun K hK => ?_) AllReadyW.nil)
      go_simp
      refine (radd_v (K := (Ka + Kb + 1)) _ i6 (Fr.ii (to8 (by assumption)) ib) (by omega)).mono ?_
      rintro e w12 ⟨At, nt, ct, lt, rfl, Nt, Ot, it, hw⟩
      replace Ot := Ot.base (B' := w.heap.size + 4) HZ
      replace O5 := O5.below hw
      replace i5 := i5.below hw
      replace O6 := O6.below hw
      replace i6 := i6.below hw
      replace Om := Om.below hw
      replace im := im.below hw
      replace Oq := Oq.below hw
      replace iq := iq.below hw
      replace HZ := Nat.le_trans HZ hw.size
      refine hK.out _ _ (keep8 (by assumption) hw) (fun hV12 => ?_)
      clear hK K
      try simp only [Act.put, List.setIfInBounds_toArray, List.set_cons_zero, List.set_cons_succ]
      clear hw
      have FR := to8 (by assumption)
      obtain ⟨⟨_, kg2_0, fg2_0⟩, ⟨_, kg2_1, fg2_1⟩⟩ := FR.two (g := w.heap.size + 1 + 1) (by simp)
      obtain ⟨⟨_, kg3_0, fg3_0⟩, ⟨_, kg3_1, fg3_1⟩⟩ := FR.two (g := w.heap.size + 1 + 1 + 1) (by simp)
      refine wpAnyW_ready (rs := [6]) (by kernel_rfl) (by simp) (AllReadyW.consT rfl rfl (fun K hK => ?_) AllReadyW.nil)
      go_simp
      refine hK.out _ _ ?_
      clear hK K
      try simp only [Act.put, List.setIfInBounds_toArray, List.set_cons_zero, List.set_cons_succ]
      refine wpAnyW_ready (rs := [7]) (by kernel_rfl) (by simp) (AllReadyW.consT rfl rfl (fun K hK => ?_) AllReadyW.nil)
      go_simp
      refine hK.out _ _ ?_
      clear hK K
      try simp only [Act.put, List.setIfInBounds_toArray, List.set_cons_zero, List.set_cons_succ]
      refine wpAnyW_ready (rs := [8]) (by kernel_rfl) (by simp) (AllReadyW.consT rfl rfl (fun K hK => ?_) AllReadyW.nil)
      go_simp
      refine hK.out _ _ ?_
      clear hK K
      try simp only [Act.put, List.setIfInBounds_toArray, List.set_cons_zero, List.set_cons_succ]
      refine wpAnyW_done (by kernel_rfl) ?_ _
      refine NoPanic.normal ?_
      have HE : Hid (p - 1 = k ∧ u + xb = r) := by
        obtain ⟨h1, h2⟩ := (unhide HD).1 ⟨hσ, mt (unhide H0).2 (unhide HW)⟩
        exact ⟨by rw [unhide HP, (unhide HY).1, h1, hσ], by rw [unhide HU, (unhide HY).2]; exact h2.symm⟩
      go_wp2_with fail
      refine bodyPost_ret (v := .tuple #[.agg #[.bool (decide (p - 1 < 0)), .slice Aq nq cq], .agg #[.bool (decide (u + xb < 0)), .slice At nt ct], .int .i64 0]) (by simp [results, Try.results87, go_sem, kg2_0, fg2_0, kg2_1, fg2_1, kg3_0, fg3_0, kg3_1, fg3_1]) rfl ?_
      obtain ⟨rfl, rfl⟩ := unhide HE
      rw [← (unhide HY).1, ← (unhide HY).2, unhide E9]
      have h0 : w.heap.size + 1 + 1 < w.heap.size + 4 := by omega
      have h1 : w.heap.size + 1 + 1 + 1 < w.heap.size + 4 := by omega
      refine ⟨Aq, nq, cq, lq, At, nt, ct, lt, rfl, Nq, ((Oq.set4 h0 h1)).base (by omega), ⟨((Oq.set4 h0 h1)).toIn, iq.zi, k_len Nq iq.abs.symm Oq.toIn (unhide HL).1⟩, Nt, ((Ot.set4 h0 h1)).base (by omega), ⟨((Ot.set4 h0 h1)).toIn, it.zi, k_len Nt it.abs.symm Ot.toIn (unhide HL).2⟩, ?_⟩
      exact ((((FR.set (by simp; omega) _).set (by simp; omega) _).set (by simp; omega) _).set (by simp; omega) _).bel

end Go.Proofs.Ytlpnjoenkohadaa
