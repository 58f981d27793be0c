/-
  Integers: DivMod.
-/
import Derived.Test.YtfmcpplkmldhiaaGreatIs
import Derived.Test.YtfmcpplkmldhiaaGreatHeldW
namespace Go.Proofs.YtfmcpplkmldhiaaGreat
set_option linter.unusedVariables false
set_option linter.unusedSimpArgs false
open Go.RowKit
attribute [local go_sem ↓] Go.wp_at_zero Go.wp_at_succ

/-- Behind 'a, b = New(a.Neg, a.Mag), New(b.Neg, b.Mag)'. -/
def Two (w : World) (B g0 g1 : Nat) (x y : Int) (rs : List (Nat × Nat)) (wx : World) : Prop :=
  ∃ A1 n1 c1 l1 A2 n2 c2 l2, (wx.cell? ⟨g0, 0, none⟩ = some (.bool (decide (x < 0))) ∧ wx.cell? ⟨g0, 1, none⟩ = some (.slice A1 n1 c1) ∧
    wx.cell? ⟨g1, 0, none⟩ = some (.bool (decide (y < 0))) ∧ wx.cell? ⟨g1, 1, none⟩ = some (.slice A2 n2 c2) ∧ Hid (Fr w rs wx)) ∧
    Norm l1 ∧ val l1 = x.natAbs ∧ Own wx B A1 n1 c1 l1 ∧ Norm l2 ∧ val l2 = y.natAbs ∧ Own wx B A2 n2 c2 l2 ∧ n1 ≤ 17179869184 ∧ n2 ≤ 17179869184 ∧ B ≤ wx.heap.size

def divEI (y : Int) : Int := if y = 0 then 9 else 0
def quoI (x y : Int) : Int := if y = 0 then 0 else x.fdiv y
def remI (x y : Int) : Int := if y = 0 then 0 else x.fmod y
theorem divE_abs (y : Int) : divE y.natAbs = divEI y := by
  unfold divE divEI
  by_cases h : y = 0
  · subst h; rfl
  · rw [if_neg h, if_neg (by omega)]
def DivPostI (w : World) (x y : Int) (e : Ending) (w' : World) : Prop :=
  ∃ A1 n1 c1 l1 A2 n2 c2 l2, e = .returned (.tuple #[.agg #[.bool (decide (quoI x y < 0)), .slice A1 n1 c1], .agg #[.bool (decide (remI x y < 0)), .slice A2 n2 c2], .int .i64 (divEI y)]) ∧
    Norm l1 ∧ val l1 = (quoI x y).natAbs ∧ Norm l2 ∧ val l2 = (remI x y).natAbs ∧ Own w' w.heap.size A1 n1 c1 l1 ∧ Own w' w.heap.size A2 n2 c2 l2 ∧ Below w.heap.size w w'
theorem fmod_lt_abs (x y : Int) (hy : y ≠ 0) : (x.fmod y).natAbs < y.natAbs := by
  have hp : ∀ a b : Int, 0 < b → (a.fmod b).natAbs < b.natAbs := by
    intro a b h
    rw [Int.fmod_eq_emod_of_nonneg _ (Int.le_of_lt h)]
    have h1 := Int.emod_nonneg a (b := b) (by omega)
    have h2 := Int.emod_lt_of_pos a h
    omega
  rcases Int.lt_trichotomy y 0 with h | h | h
  · have h1 := hp (-x) (-y) (by omega)
    rw [Int.neg_fmod_neg] at h1
    omega
  · exact absurd h hy
  · exact hp x y h

set_option maxRecDepth 100000 in
set_option maxHeartbeats 4000000 in
theorem idivmod_c {A B : Option Addr} {n c m d : Nat} {a b : List Nat} {s t : Bool} {x y : Int} (w : World) (ha : In w A n c a) (hb : In w B m d b) (hn : n ≤ 17179869184) (hm : m ≤ 17179869184) (hx : zi s (val a) = x) (hy : zi t (val b) = y) :
    Calls Tryz.prog 103 #[.agg #[.bool s, .slice A n c], .agg #[.bool t, .slice B m d]] w (DivPostI w x y) := by
  have ex : x.natAbs = val a := by rw [← hx, zi_abs]
  have ey : y.natAbs = val b := by rw [← hy, zi_abs]
  have HX := hide (And.intro hx ex)
  have HY := hide (And.intro hy ey)
  clear hx hy ex ey
  go_enter Tryz.func103, Tryz.ntmps103
  go_upto_region 1 with fail
  obtain ⟨w0, hw0⟩ : ∃ w0, w0 = ((((w.alloc (.cells #[.bool s, .slice A n c] 24)).alloc (.cells #[.bool t, .slice B m d] 24)).alloc (.cells #[.bool false, .slice none 0 0] 24)).alloc (.cells #[.bool false, .slice none 0 0] 24)) := ⟨_, rfl⟩
  have kw00 : Blk w0 (w.heap.size) 24 #[.bool s, .slice A n c] := by rw [hw0]; exact allocs_blk [(#[.bool s, .slice A n c], 24), (#[.bool t, .slice B m d], 24), (#[.bool false, .slice none 0 0], 24), (#[.bool false, .slice none 0 0], 24)] w 0 _ _ rfl
  have kw01 : Blk w0 (w.heap.size + 1) 24 #[.bool t, .slice B m d] := by rw [hw0]; exact allocs_blk [(#[.bool s, .slice A n c], 24), (#[.bool t, .slice B m d], 24), (#[.bool false, .slice none 0 0], 24), (#[.bool false, .slice none 0 0], 24)] w 1 _ _ rfl
  have kw02 : Blk w0 (w.heap.size + 1 + 1) 24 #[.bool false, .slice none 0 0] := by rw [hw0]; exact allocs_blk [(#[.bool s, .slice A n c], 24), (#[.bool t, .slice B m d], 24), (#[.bool false, .slice none 0 0], 24), (#[.bool false, .slice none 0 0], 24)] w 2 _ _ rfl
  have kw03 : Blk w0 (w.heap.size + 1 + 1 + 1) 24 #[.bool false, .slice none 0 0] := by rw [hw0]; exact allocs_blk [(#[.bool s, .slice A n c], 24), (#[.bool t, .slice B m d], 24), (#[.bool false, .slice none 0 0], 24), (#[.bool false, .slice none 0 0], 24)] w 3 _ _ rfl
  have fr : Fr w [(w.heap.size + 1 + 1, 2), (w.heap.size + 1 + 1 + 1, 2)] w0 := Fr.cons (Fr.cons ((⟨by rw [hw0]; exact allocs_below [(#[.bool s, .slice A n c], 24), (#[.bool t, .slice B m d], 24), (#[.bool false, .slice none 0 0], 24), (#[.bool false, .slice none 0 0], 24)] w, fun _ h => by cases h⟩ : Fr w [] w0)) (g := w.heap.size + 1 + 1 + 1) (k := 2) (by omega) (.of_blk kw03 rfl)) (g := w.heap.size + 1 + 1) (k := 2) (by omega) (.of_blk kw02 rfl)
  have sw0 : w0.heap.size = w.heap.size + 4 := by rw [hw0]; exact allocs_size [(#[.bool s, .slice A n c], 24), (#[.bool t, .slice B m d], 24), (#[.bool false, .slice none 0 0], 24), (#[.bool false, .slice none 0 0], 24)] w
  rw [← hw0]
  clear hw0
  have fr := Fr.cons (Fr.cons fr (g := w.heap.size + 1) (k := 2) (by omega) (.of_blk kw01 rfl)) (g := w.heap.size) (k := 2) (by omega) (.of_blk kw00 rfl)
  have hS := And.intro (kw00.cell 0) (And.intro (kw00.cell 1) (And.intro (kw01.cell 0) (And.intro (kw01.cell 1) (hide fr))))
  clear kw00 kw01 kw02 kw03 fr
  go_cut [] (fun wx => Two w (w.heap.size + 4) (w.heap.size) (w.heap.size + 1) x y [(w.heap.size, 2), (w.heap.size + 1, 2), (w.heap.size + 1 + 1, 2), (w.heap.size + 1 + 1 + 1, 2)] wx)
  case first =>
    refine wp_region_noPanic ?_
    refine wp_region_W (S := fun w' => w'.cell? ⟨w.heap.size, 0, none⟩ = some (.bool s) ∧ w'.cell? ⟨w.heap.size, 1, none⟩ = some (.slice A n c) ∧ w'.cell? ⟨w.heap.size + 1, 0, none⟩ = some (.bool t) ∧ w'.cell? ⟨w.heap.size + 1, 1, none⟩ = some (.slice B m d) ∧ Hid (Fr w [(w.heap.size, 2), (w.heap.size + 1, 2), (w.heap.size + 1 + 1, 2), (w.heap.size + 1 + 1 + 1, 2)] w')) (T := fun i => i == 10 || i == 11) (by kernel_rfl) (drew4 hS) (fun hW0 => ?_)
    refine wpAnyW_take (i := 0) (v := ?_) rfl (by kernel_rfl) (by kernel_rfl) (by kernel_rfl) (by kernel_rfl) (by kernel_rfl) (fun _ _ _ h => h) (Or.inl ⟨by rfl, ?_⟩) (by assumption) ?_
    rotate_left
    · (intro W1 hSw; (try dsimp only at hSw); go_simp; try with_reducible rfl)
    try simp only [Act.put, List.setIfInBounds_toArray, List.set_cons_zero, List.set_cons_succ]
    refine wpAnyW_take (i := 1) (v := ?_) rfl (by kernel_rfl) (by kernel_rfl) (by kernel_rfl) (by kernel_rfl) (by kernel_rfl) (fun _ _ _ h => h) (Or.inl ⟨by rfl, ?_⟩) (by assumption) ?_
    rotate_left
    · (intro W1 hSw; (try dsimp only at hSw); go_simp; try with_reducible rfl)
    try simp only [Act.put, List.setIfInBounds_toArray, List.set_cons_zero, List.set_cons_succ]
    refine wpAnyW_take (i := 2) (v := ?_) rfl (by kernel_rfl) (by kernel_rfl) (by kernel_rfl) (by kernel_rfl) (by kernel_rfl) (fun _ _ _ h => h) (Or.inl ⟨by rfl, ?_⟩) (by assumption) ?_
    rotate_left
    · (intro W1 hSw; (try dsimp only at hSw); go_simp; try with_reducible rfl)
    try simp only [Act.put, List.setIfInBounds_toArray, List.set_cons_zero, List.set_cons_succ]
    refine wpAnyW_take (i := 3) (v := ?_) rfl (by kernel_rfl) (by kernel_rfl) (by kernel_rfl) (by kernel_rfl) (by kernel_rfl) (fun _ _ _ h => h) (Or.inl ⟨by rfl, ?_⟩) (by assumption) ?_
    rotate_left
    · (intro W1 hSw; (try dsimp only at hSw); go_simp; try with_reducible rfl)
    try simp only [Act.put, List.setIfInBounds_toArray, List.set_cons_zero, List.set_cons_succ]
    refine wpAnyW_take (i := 5) (v := ?_) rfl (by kernel_rfl) (by kernel_rfl) (by kernel_rfl) (by kernel_rfl) (by kernel_rfl) (fun _ _ _ h => h) (Or.inl ⟨by rfl, ?_⟩) (by assumption) ?_
    rotate_left
    · (intro W1 hSw; (try dsimp only at hSw); go_simp; try with_reducible rfl)
    try simp only [Act.put, List.setIfInBounds_toArray, List.set_cons_zero, List.set_cons_succ]
    refine wpAnyW_take (i := 6) (v := ?_) rfl (by kernel_rfl) (by kernel_rfl) (by kernel_rfl) (by kernel_rfl) (by kernel_rfl) (fun _ _ _ h => h) (Or.inl ⟨by rfl, ?_⟩) (by assumption) ?_
    rotate_left
    · (intro W1 hSw; (try dsimp only at hSw); go_simp; try with_reducible rfl)
    try simp only [Act.put, List.setIfInBounds_toArray, List.set_cons_zero, List.set_cons_succ]
    refine wpAnyW_take (i := 7) (v := ?_) rfl (by kernel_rfl) (by kernel_rfl) (by kernel_rfl) (by kernel_rfl) (by kernel_rfl) (fun _ _ _ h => h) (Or.inl ⟨by rfl, ?_⟩) (by assumption) ?_
    rotate_left
    · (intro W1 hSw; (try dsimp only at hSw); go_simp; try with_reducible rfl)
    try simp only [Act.put, List.setIfInBounds_toArray, List.set_cons_zero, List.set_cons_succ]
    refine wpAnyW_take (i := 8) (v := ?_) rfl (by kernel_rfl) (by kernel_rfl) (by kernel_rfl) (by kernel_rfl) (by kernel_rfl) (fun _ _ _ h => h) (Or.inl ⟨by rfl, ?_⟩) (by assumption) ?_
    rotate_left
    · (intro W1 hSw; (try dsimp only at hSw); go_simp; try with_reducible rfl)
    try simp only [Act.put, List.setIfInBounds_toArray, List.set_cons_zero, List.set_cons_succ]
    refine wpAnyW_ready (rs := [4]) (by kernel_rfl) (by simp) (AllReadyW.cons rfl rfl (fun K hK => ?_) AllReadyW.nil)
    go_simp
    refine (new_k (k := x) _ (Fr.in_ (to4 hW0) ha) (by omega) (unhide HX).1).mono ?_
    rintro e w1 ⟨A1, n1, c1, l1, rfl, N1, v1, o1, hw1⟩
    have b1 : n1 ≤ n := abs_len ha N1 (by rw [v1]; exact (unhide HX).2) o1
    have V1 := hide v1
    clear v1
    refine hK.out _ _ (keep4 (by assumption) hw1) (fun hW1 => ?_)
    clear hK K
    try simp only [Act.put, List.setIfInBounds_toArray, List.set_cons_zero, List.set_cons_succ]
    refine wpAnyW_ready (rs := [9]) (by kernel_rfl) (by simp) (AllReadyW.cons rfl rfl (fun K hK => ?_) AllReadyW.nil)
    go_simp
    refine (new_k (k := y) _ (Fr.in_ (to4 hW1) hb) (by omega) (unhide HY).1).mono ?_
    rintro e w2 ⟨A2, n2, c2, l2, rfl, N2, v2, o2, hw2⟩
    have b2 : n2 ≤ m := abs_len hb N2 (by rw [v2]; exact (unhide HY).2) o2
    have V2 := hide v2
    have O1 : Own w2 (w.heap.size + 4) A1 n1 c1 l1 := (o1.below hw2).base (by simp; omega)
    have z1 : w.heap.size + 4 ≤ w1.heap.size := by have := hw1.size; simp at this; omega
    have O2 : Own w2 (w.heap.size + 4) A2 n2 c2 l2 := o2.base z1
    have z2 := hw2.size
    clear v2
    refine hK.out _ _ (keep4 (by assumption) hw2) (fun hW2 => ?_)
    clear hK K
    try simp only [Act.put, List.setIfInBounds_toArray, List.set_cons_zero, List.set_cons_succ]
    have fr2 := to4 hW2
    obtain ⟨⟨_, k0, f0⟩, ⟨_, k1, f1⟩⟩ := fr2.two (g := w.heap.size) (by simp)
    obtain ⟨⟨_, k2, f2⟩, ⟨_, k3, f3⟩⟩ := fr2.two (g := w.heap.size + 1) (by simp)
    refine wpAnyW_ready (rs := [10]) (by kernel_rfl) (by simp) (AllReadyW.consT rfl rfl (fun K hK => ?_) AllReadyW.nil)
    go_simp
    refine hK.out _ _ ?_
    clear hK K
    try simp only [Act.put, List.setIfInBounds_toArray, List.set_cons_zero, List.set_cons_succ]
    refine wpAnyW_ready (rs := [11]) (by kernel_rfl) (by simp) (AllReadyW.consT rfl rfl (fun K hK => ?_) AllReadyW.nil)
    go_simp
    refine hK.out _ _ ?_
    clear hK K
    try simp only [Act.put, List.setIfInBounds_toArray, List.set_cons_zero, List.set_cons_succ]
    refine wpAnyW_done (by kernel_rfl) ?_ _
    refine NoPanic.normal ?_
    go_wp2_with fail
    go_meet
    have h0 : w.heap.size < w.heap.size + 4 := by omega
    have h1 : w.heap.size + 1 < w.heap.size + 4 := by omega
    refine ⟨A1, n1, c1, l1, A2, n2, c2, l2, ⟨?_, ?_, ?_, ?_, ?_⟩, N1, unhide V1, ?_, N2, unhide V2, ?_, by omega, by omega, by simp [World.setCell]; omega⟩
    · simp [go_sem, k0, k1, k2, k3]
    · simp [go_sem, k0, k1, k2, k3]
    · simp [go_sem, k0, k1, k2, k3]
    · simp [go_sem, k0, k1, k2, k3]
    · exact (((fr2.set (by simp) _).set (by simp) _).set (by simp) _).set (by simp) _
    · exact (((O1.set h0 _).set h0 _).set h1 _).set h1 _
    · exact (((O2.set h0 _).set h0 _).set h1 _).set h1 _
  case rest =>
    obtain ⟨A1, n1, c1, l1, A2, n2, c2, l2, ⟨c0, c1', d0, d1, hfr⟩, N1, v1, O1, N2, v2, O2, b1, b2, hB⟩ := hcut
    have V := hide (And.intro v1 v2)
    clear v1 v2 hS
    have hL1 := O1.toIn.lenI
    go_wp2_with fail
    refine (divmod_c _ O1.toIn O2.toIn (by omega) (by omega)).mono ?_
    rintro e w3 ⟨A3, n3, c3, l3, A4, n4, c4, l4, rfl, N3, v3, N4, v4, o3, o4, hw3⟩
    replace c0 := keepc hw3 c0
    replace c1' := keepc hw3 c1'
    replace d0 := keepc hw3 d0
    replace d1 := keepc hw3 d1
    replace hfr := hide ((unhide hfr).below hw3)
    have hB3 := hw3.size
    have e9 : divE (val l2) = divEI y := by rw [(unhide V).2, divE_abs]
    rw [e9]
    have hn4 := o4.toIn.lenI
    by_cases hy0 : y = 0
    · have E9 : Hid (divEI y = 9) := by show (if y = 0 then (9 : Int) else 0) = 9; rw [if_pos hy0]
      have Q0 : Hid (quoI x y = 0) := by show (if y = 0 then (0 : Int) else _) = 0; rw [if_pos hy0]
      have R0 : Hid (remI x y = 0) := by show (if y = 0 then (0 : Int) else _) = 0; rw [if_pos hy0]
      rw [unhide E9]
      clear hy0 v3 v4 e9
      obtain ⟨⟨_, k0, f0⟩, ⟨_, k1, f1⟩⟩ := (unhide hfr).two (g := w.heap.size + 1 + 1) (by simp)
      obtain ⟨⟨_, k2, f2⟩, ⟨_, k3, f3⟩⟩ := (unhide hfr).two (g := w.heap.size + 1 + 1 + 1) (by simp)
      go_wp2_with fail
      refine bodyPost_ret (v := .tuple #[.agg #[.bool false, .slice none 0 0], .agg #[.bool false, .slice none 0 0], .int .i64 9]) (by simp [results, Tryz.results103, go_sem, k0, k1, k2, k3]) rfl ?_
      refine ⟨none, 0, 0, [], none, 0, 0, [], by rw [unhide E9, unhide Q0, unhide R0]; rfl, Norm.nil, by rw [unhide Q0]; rfl, Norm.nil, by rw [unhide R0]; rfl, Own.nil_, Own.nil_, ?_⟩
      exact (((((unhide hfr).set (by simp; omega) _).set (by simp; omega) _).set (by simp; omega) _).set (by simp; omega) _).bel
    · have E9 : Hid (divEI y = 0) := by show (if y = 0 then (9 : Int) else 0) = 0; rw [if_neg hy0]
      rw [unhide E9]
      obtain ⟨k, hk⟩ : ∃ k, k = quoI x y := ⟨_, rfl⟩
      have hk2 : k = x.fdiv y := by rw [hk, quoI, if_neg hy0]
      obtain ⟨r, hr⟩ : ∃ r, r = remI x y := ⟨_, rfl⟩
      have hr2 : r = x.fmod y := by rw [hr, remI, if_neg hy0]
      rw [(unhide V).1, (unhide V).2] at v3
      rw [(unhide V).1, (unhide V).2, modN_pos (by omega)] at v4
      have KF : ∀ σ q, (!(decide (x < 0) == decide (y < 0))) = σ → (x.natAbs / y.natAbs + (if σ && decide (0 < x.natAbs % y.natAbs) then 1 else 0)) = q → zi σ q = k := by
        intro σ q h1 h2
        rw [hk2, ← fdiv_signs x y hy0, ← h1, ← h2, ← h1]
      have lp : ∀ m, m = n4 → decide (0 < x.natAbs % y.natAbs) = decide (0 < m) := by
        intro m hm
        rw [← v4, N4.len_pos, o4.len, hm]
      have b3 : n3 ≤ n1 := by
        have h1 := N3.length_le (k := n1) (by
          rw [v3, ← (unhide V).1]
          exact Nat.lt_of_le_of_lt (Nat.div_le_self _ _) (val_lt_of O1.dig (Nat.le_of_eq O1.len)))
        rw [o3.len] at h1
        exact h1
      have hcase : ((!(decide (x < 0) == decide (y < 0))) = true ∧ 0 < n4) ∨ ((!(decide (x < 0) == decide (y < 0))) = true ∧ ¬ 0 < n4) ∨ (!(decide (x < 0) == decide (y < 0))) = false := by
        by_cases h1 : (!(decide (x < 0) == decide (y < 0))) = true
        · by_cases h2 : 0 < n4
          · exact .inl ⟨h1, h2⟩
          · exact .inr (.inl ⟨h1, h2⟩)
        · exact .inr (.inr (by simpa using h1))
      have REST := hide (And.intro hy0 (And.intro hk2 (And.intro hr2 (And.intro hk hr))))
      have LP := hide lp
      have KH := hide KF
      have V3 := hide v3
      clear v3 v4 e9 hk hk2 hr hr2 KF lp hy0
      rcases hcase with ⟨hσ, hpos⟩ | ⟨hσ, hpos⟩ | hσ
      case' inl =>
        have hposI : (0 : Int) < (n4 : Int) := by omega
        have HP := hide hpos
        clear hpos
        go_wp2_with fail
        refine (fromUint64_c 1 (by omega) _).mono ?_
        rintro e w4 ⟨A5, n5, c5, l5, rfl, N5, v5, o5, hw4⟩
        have b5 : n5 ≤ 1 := by
          have h1 := N5.length_le (k := 1) (by rw [v5]; decide)
          rw [o5.len] at h1
          exact h1
        replace c0 := keepc hw4 c0
        replace c1' := keepc hw4 c1'
        replace d0 := keepc hw4 d0
        replace d1 := keepc hw4 d1
        replace hfr := hide ((unhide hfr).below hw4)
        have i3 := o3.toIn.below hw4
        have V5 := hide v5
        clear v5
        go_wp2_with fail
        refine (add_c _ i3 o5.toIn (by omega) (by omega)).mono ?_
        rintro e wq ⟨Aq, nq, cq, lq, rfl, Nq, vq, oq, hwq⟩
        have bq : nq ≤ 17179869184 + 1 := by
          have h1 := val_lt_of i3.dig (Nat.le_trans (Nat.le_of_eq i3.len) (Nat.le_trans b3 b1))
          have h2 := val_lt_of o5.dig (Nat.le_trans (Nat.le_of_eq o5.len) b5)
          have h3 := Nq.length_le (k := 17179869184 + 1) (by rw [vq]; exact pw_add_lt h1 h2 (by omega) (by omega))
          rw [oq.len] at h3
          exact h3
        replace c0 := keepc hwq c0
        replace c1' := keepc hwq c1'
        replace d0 := keepc hwq d0
        replace d1 := keepc hwq d1
        replace hfr := hide ((unhide hfr).below hwq)
        have iq := oq.toIn
        have KQ : Hid (zi true (val lq) = k) := (unhide KH) true _ hσ (by rw [unhide LP n4 rfl, decide_eq_true (unhide HP), vq, unhide V3, unhide V5]; rfl)
        have b8 := hwq.size
        have hBq : wc.heap.size ≤ wq.heap.size := by have := hw4.size; omega
        clear vq V3 V5 i3 b8 oq
        go_wp2_with fail
      case' inr.inl =>
        have hposI : ¬ (0 : Int) < (n4 : Int) := by omega
        have HP := hide hpos
        clear hpos
        obtain ⟨wq, rfl⟩ : ∃ wq, wq = w3 := ⟨_, rfl⟩
        obtain ⟨Aq, rfl⟩ : ∃ Aq, Aq = A3 := ⟨_, rfl⟩
        obtain ⟨nq, rfl⟩ : ∃ nq, nq = n3 := ⟨_, rfl⟩
        obtain ⟨cq, rfl⟩ : ∃ cq, cq = c3 := ⟨_, rfl⟩
        obtain ⟨lq, rfl⟩ : ∃ lq, lq = l3 := ⟨_, rfl⟩
        have bq : nq ≤ 17179869184 + 1 := by omega
        have iq := o3.toIn
        have KQ : Hid (zi true (val lq) = k) := (unhide KH) true _ hσ (by rw [unhide LP n4 rfl, decide_eq_false (unhide HP), unhide V3]; rfl)
        have hBq : wc.heap.size ≤ wq.heap.size := hB3
        clear V3
        go_wp2_with fail
      case' inr.inr =>
        obtain ⟨wq, rfl⟩ : ∃ wq, wq = w3 := ⟨_, rfl⟩
        obtain ⟨Aq, rfl⟩ : ∃ Aq, Aq = A3 := ⟨_, rfl⟩
        obtain ⟨nq, rfl⟩ : ∃ nq, nq = n3 := ⟨_, rfl⟩
        obtain ⟨cq, rfl⟩ : ∃ cq, cq = c3 := ⟨_, rfl⟩
        obtain ⟨lq, rfl⟩ : ∃ lq, lq = l3 := ⟨_, rfl⟩
        have bq : nq ≤ 17179869184 + 1 := by omega
        have iq := o3.toIn
        have KQ : Hid (zi false (val lq) = k) := (unhide KH) false _ hσ (by rw [unhide V3]; rfl)
        have hBq : wc.heap.size ≤ wq.heap.size := hB3
        clear V3
        go_wp2_with fail
      all_goals
        refine (signed_c _ _).mono ?_
        rintro e w7 ⟨rfl, rfl⟩
        go_wp2_with fail
        refine (signed1_c (k := k) _ (iq.below (below_new _ _)) ((Blk.new _ _ _).cell 0) (by omega) (unhide KQ)).mono ?_
        rintro e w8 ⟨A8, n8, c8, l8, rfl, N8, v8, o8, hw8⟩
        have hal : Below wq.heap.size wq w8 := (below_new wq _).trans (hw8.mono (by simp))
        replace c0 := keepc hal c0
        replace c1' := keepc hal c1'
        replace d0 := keepc hal d0
        replace d1 := keepc hal d1
        replace hfr := hide ((unhide hfr).below hal)
        have V8 := hide v8
        clear v8
        have b8 : n8 ≤ nq := abs_len iq N8 (by rw [unhide V8, ← unhide KQ, zi_abs]) o8
        have O8 : Own w8 (w.heap.size + 4) A8 n8 c8 l8 := o8.base (by simp; omega)
        have hG : w.heap.size + 4 ≤ w8.heap.size := by have := hal.size; omega
        have hcw8 : Below wc.heap.size wc w8 := (by first | exact (hw3.trans ((hw4.trans (hwq.mono hw4.size)).mono hw3.size)).trans (hal.mono hBq) | exact hw3.trans (hal.mono hB3))
        clear o8 iq
        go_wp2_with fail
        have kG := Blk.new w8 24 #[.bool (decide (k < 0)), .slice A8 n8 c8]
        have hnw := below_new w8 (.cells #[.bool (decide (k < 0)), .slice A8 n8 c8] 24)
        obtain ⟨w9, hw9⟩ : ∃ w9, w9 = w8.alloc (.cells #[.bool (decide (k < 0)), .slice A8 n8 c8] 24) := ⟨_, rfl⟩
        rw [← hw9] at kG hnw
        rw [← hw9]
        clear hw9
        replace c0 := keepc hnw c0
        replace c1' := keepc hnw c1'
        replace d0 := keepc hnw d0
        replace d1 := keepc hnw d1
        have O8' := O8.below hnw
        have O1' := (O1.below hcw8).below hnw
        have O2' := (O2.below hcw8).below hnw
        have i8 := O8'.toIn
        have i1 := O1'.toIn
        have i2 := O2'.toIn
        have z9 : w.heap.size + 4 ≤ w9.heap.size := by have := hnw.size; omega
        obtain ⟨G, hGe⟩ : ∃ G, G = w8.heap.size := ⟨_, rfl⟩
        rw [← hGe] at kG hG
        rw [← hGe]
        have hS := And.intro (kG.cell 0) (And.intro (kG.cell 1) (And.intro c0 (And.intro c1' (And.intro d0 (And.intro d1 (hide ((unhide hfr).below hnw)))))))
        clear hGe c0 c1' d0 d1 hfr kG hnw
        refine wp_region_noPanic ?_
        refine wp_region_W (S := fun w' => w'.cell? ⟨G, 0, none⟩ = some (.bool (decide (k < 0))) ∧ w'.cell? ⟨G, 1, none⟩ = some (.slice A8 n8 c8) ∧ w'.cell? ⟨w.heap.size, 0, none⟩ = some (.bool (decide (x < 0))) ∧ w'.cell? ⟨w.heap.size, 1, none⟩ = some (.slice A1 n1 c1) ∧ w'.cell? ⟨w.heap.size + 1, 0, none⟩ = some (.bool (decide (y < 0))) ∧ w'.cell? ⟨w.heap.size + 1, 1, none⟩ = some (.slice A2 n2 c2) ∧ Hid (Fr w [(w.heap.size, 2), (w.heap.size + 1, 2), (w.heap.size + 1 + 1, 2), (w.heap.size + 1 + 1 + 1, 2)] w')) (T := fun i => i == 6 || i == 7 || i == 8) (by kernel_rfl) (drew6 hS) (fun hW0 => ?_)
        refine wpAnyW_take (i := 0) (v := ?_) rfl (by kernel_rfl) (by kernel_rfl) (by kernel_rfl) (by kernel_rfl) (by kernel_rfl) (fun _ _ _ h => h) (Or.inl ⟨by rfl, ?_⟩) (by assumption) ?_
        rotate_left
        · (intro W1 hSw; (try dsimp only at hSw); go_simp; try with_reducible rfl)
        try simp only [Act.put, List.setIfInBounds_toArray, List.set_cons_zero, List.set_cons_succ]
        refine wpAnyW_take (i := 1) (v := ?_) rfl (by kernel_rfl) (by kernel_rfl) (by kernel_rfl) (by kernel_rfl) (by kernel_rfl) (fun _ _ _ h => h) (Or.inl ⟨by rfl, ?_⟩) (by assumption) ?_
        rotate_left
        · (intro W1 hSw; (try dsimp only at hSw); go_simp; try with_reducible rfl)
        try simp only [Act.put, List.setIfInBounds_toArray, List.set_cons_zero, List.set_cons_succ]
        refine wpAnyW_take (i := 2) (v := ?_) rfl (by kernel_rfl) (by kernel_rfl) (by kernel_rfl) (by kernel_rfl) (by kernel_rfl) (fun _ _ _ h => h) (Or.inl ⟨by rfl, ?_⟩) (by assumption) ?_
        rotate_left
        · (intro W1 hSw; (try dsimp only at hSw); go_simp; try with_reducible rfl)
        try simp only [Act.put, List.setIfInBounds_toArray, List.set_cons_zero, List.set_cons_succ]
        refine wpAnyW_take (i := 3) (v := ?_) rfl (by kernel_rfl) (by kernel_rfl) (by kernel_rfl) (by kernel_rfl) (by kernel_rfl) (fun _ _ _ h => h) (Or.inl ⟨by rfl, ?_⟩) (by assumption) ?_
        rotate_left
        · (intro W1 hSw; (try dsimp only at hSw); go_simp; try with_reducible rfl)
        try simp only [Act.put, List.setIfInBounds_toArray, List.set_cons_zero, List.set_cons_succ]
        refine wpAnyW_ready (rs := [4]) (by kernel_rfl) (by simp) (AllReadyW.cons rfl rfl (fun K hK => ?_) AllReadyW.nil)
        go_simp
        refine (imul_c (k := k * y) _ i8.drew i2.drew (by omega) (by omega) (by rw [zi_of k (unhide V8), zi_of y (unhide V).2])).mono ?_
        rintro e w10 ⟨A10, n10, c10, l10, rfl, N10, v10, o10, hw10⟩
        have b10 : n10 ≤ n8 + n2 := mul_len i8.drew i2.drew N10 (by rw [v10, unhide V8, (unhide V).2, Int.natAbs_mul]) o10
        have V10 := hide v10
        clear v10
        refine hK.out _ _ (keep6 (by assumption) hw10) (fun hW1 => ?_)
        clear hK K
        try simp only [Act.put, List.setIfInBounds_toArray, List.set_cons_zero, List.set_cons_succ]
        refine wpAnyW_ready (rs := [5]) (by kernel_rfl) (by simp) (AllReadyW.cons rfl rfl (fun K hK => ?_) AllReadyW.nil)
        go_simp
        refine (isub_c (k := r) _ (i1.drew.below hw10) o10.toIn (by omega) (by omega) (by rw [zi_of x (unhide V).1, zi_of (k * y) (unhide V10), (unhide REST).2.2.1, (unhide REST).2.1, Int.fmod_def, Int.mul_comm])).mono ?_
        rintro e w11 ⟨A11, n11, c11, l11, rfl, N11, v11, o11, hw11⟩
        have V11 := hide v11
        have hw9' : Below w9.heap.size w9 w11 := (below_drew (Below.refl _ _)).trans ((hw10.trans (hw11.mono hw10.size)).mono (Nat.le_refl _))
        have O11 : Own w11 (w.heap.size + 4) A11 n11 c11 l11 := o11.base (by have h := hw10.size; simp only [World.size_drew] at h; omega)
        have O8'' := O8'.below hw9'
        clear v11
        refine hK.out _ _ (keep6 (by assumption) hw11) (fun hW2 => ?_)
        clear hK K
        try simp only [Act.put, List.setIfInBounds_toArray, List.set_cons_zero, List.set_cons_succ]
        have fr2 := to6 hW2
        obtain ⟨⟨_, k0, f0⟩, ⟨_, k1, f1⟩⟩ := fr2.two (g := w.heap.size + 1 + 1) (by simp)
        obtain ⟨⟨_, k2, f2⟩, ⟨_, k3, f3⟩⟩ := fr2.two (g := w.heap.size + 1 + 1 + 1) (by simp)
        refine wpAnyW_ready (rs := [6]) (by kernel_rfl) (by simp) (AllReadyW.consT rfl rfl (fun K hK => ?_) AllReadyW.nil)
        go_simp
        refine hK.out _ _ ?_
        clear hK K
        try simp only [Act.put, List.setIfInBounds_toArray, List.set_cons_zero, List.set_cons_succ]
        refine wpAnyW_ready (rs := [7]) (by kernel_rfl) (by simp) (AllReadyW.consT rfl rfl (fun K hK => ?_) AllReadyW.nil)
        go_simp
        refine hK.out _ _ ?_
        clear hK K
        try simp only [Act.put, List.setIfInBounds_toArray, List.set_cons_zero, List.set_cons_succ]
        refine wpAnyW_ready (rs := [8]) (by kernel_rfl) (by simp) (AllReadyW.consT rfl rfl (fun K hK => ?_) AllReadyW.nil)
        go_simp
        refine hK.out _ _ ?_
        clear hK K
        try simp only [Act.put, List.setIfInBounds_toArray, List.set_cons_zero, List.set_cons_succ]
        refine wpAnyW_done (by kernel_rfl) ?_ _
        refine NoPanic.normal ?_
        go_wp2_with fail
        refine bodyPost_ret (v := .tuple #[.agg #[.bool (decide (k < 0)), .slice A8 n8 c8], .agg #[.bool (decide (r < 0)), .slice A11 n11 c11], .int .i64 0]) (by simp [results, Tryz.results103, go_sem, k0, k1, k2, k3]) rfl ?_
        obtain ⟨_, _, _, hk, hr⟩ := unhide REST
        have h0 : w.heap.size + 1 + 1 < w.heap.size + 4 := by omega
        have h1 : w.heap.size + 1 + 1 + 1 < w.heap.size + 4 := by omega
        refine ⟨A8, n8, c8, l8, A11, n11, c11, l11, by rw [unhide E9, ← hk, ← hr], N8, by rw [← hk]; exact unhide V8, N11, by rw [← hr]; exact unhide V11, ?_, ?_, ?_⟩
        · exact ((((O8''.set h0 _).set h0 _).set h1 _).set h1 _).base (by omega)
        · exact ((((O11.set h0 _).set h0 _).set h1 _).set h1 _).base (by omega)
        · exact ((((fr2.set (by simp; omega) _).set (by simp; omega) _).set (by simp; omega) _).set (by simp; omega) _).bel

end Go.Proofs.YtfmcpplkmldhiaaGreat
