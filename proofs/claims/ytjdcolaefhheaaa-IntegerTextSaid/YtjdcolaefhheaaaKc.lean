/-
  Walks: the law of writing and reading an integer.
-/
import Derived.Test.YtjdcolaefhheaaaHeldX
namespace Go.Proofs.Ytjdcolaefhheaaa
set_option linter.unusedVariables false
set_option linter.unusedSimpArgs false
open Go.RowKit
attribute [local go_sem ↓] Go.wp_at_zero Go.wp_at_succ

set_option maxRecDepth 100000 in
set_option maxHeartbeats 8000000 in
theorem klawText {Aa : Option Addr} {na ca : Nat} {la : List Nat} {sa : Bool} (s : ByteArray) (hs : s.size ≤ 9223372036854775807) (w : World) (ja : In w Aa na ca la) :
    Calls Try.prog 9 #[.agg #[.bool sa, .slice Aa na ca], .string s] w (RetV w (.bool true)) := by
  have hna := ja.lenI
  by_cases hsm : na ≤ 40 ∧ s.size ≤ 1200
  · obtain ⟨h40, h1200⟩ := hsm
    have ia : II w sa Aa na ca la (zi sa (val la)) 40 := ⟨ja, rfl, h40⟩
    obtain ⟨xa, hxa⟩ : ∃ xa, xa = zi sa (val la) := ⟨_, rfl⟩
    rw [← hxa] at ia
    clear hxa
    have hfew : allFew 40 [(sa, Aa, na, ca)] = true := by simp [allFew]; omega
    have t0 : ¬ (1200 : Int) < (s.size : Int) := by omega
    have hrt := parse_fmtI (x := xa) (by
      have h := decS_len (k := 40) (by omega) ia.lt
      omega)
    have RT := hide hrt
    have hlen : (fmtI xa).length ≤ 401 := by
      have h := decS_len (k := 40) (by omega) ia.lt
      unfold fmtI
      split
      · simp; omega
      · omega
    obtain ⟨L, hL⟩ : ∃ L, L = s.data.toList := ⟨_, rfl⟩
    have HL := hide hL
    have HF := hide hfew
    clear hrt hfew h40 h1200 hL
    go_enter Try.func9, Try.ntmps9
    go_upto_region 1 with fail
    obtain ⟨w0, hw0⟩ : ∃ w0, w0 = (w.alloc (.cells #[.bool sa, .slice Aa na ca] 24)) := ⟨_, rfl⟩
    have kw00 : Blk w0 (w.heap.size) 24 #[.bool sa, .slice Aa na ca] := by rw [hw0]; exact allocs_blk [(#[.bool sa, .slice Aa na ca], 24)] w 0 _ _ rfl
    have FR : Fr w [] w0 := (⟨by rw [hw0]; exact allocs_below [(#[.bool sa, .slice Aa na ca], 24)] w, fun _ h => by cases h⟩ : Fr w [] w0)
    have sw0 : w0.heap.size = w.heap.size + 1 := by rw [hw0]; exact allocs_size [(#[.bool sa, .slice Aa na ca], 24)] w
    rw [← hw0]
    clear hw0
    have c0_0 := kw00.cell 0
    have c0_1 := kw00.cell 1
    replace FR := hide FR
    have HZ : w.heap.size + 1 ≤ w0.heap.size := by omega
    clear sw0 kw00
    have kF := Blk.new w0 24 #[.bool sa, .slice Aa na ca]
    have hw := below_new w0 (.cells #[.bool sa, .slice Aa na ca] 24)
    have old_c0_0 := c0_0
    have old_c0_1 := c0_1
    replace c0_0 := keepc hw c0_0
    replace c0_1 := keepc hw c0_1
    replace FR := hide ((unhide FR).below hw)
    replace HZ := Nat.le_trans HZ hw.size
    clear hw
    go_wp2_with fail
    clear old_c0_0 old_c0_1
    obtain ⟨w2, hn⟩ : ∃ w2, w2 = w0.alloc (.cells #[.bool sa, .slice Aa na ca] 24) := ⟨_, rfl⟩
    rw [← hn] at c0_0 c0_1 FR HZ kF
    rw [← hn]
    clear hn
    refine (ifew_c (L := [(sa, Aa, na, ca)]) (k := 1) (most := 40) _ (rowi1 kF (by omega)) rfl (by omega) (by omega)).mono ?_
    rintro e w3 ⟨rfl, hw⟩
    replace c0_0 := keepc hw c0_0
    replace c0_1 := keepc hw c0_1
    replace FR := hide ((unhide FR).below hw)
    replace HZ := Nat.le_trans HZ hw.size
    clear hw kF
    rw [unhide HF]
    go_wp2_with fail
    refine (iparse_c s hs _).mono ?_
    rintro e w4 ⟨Ab, nb, cb, lb, rfl, Nb, Ob, ib, hw⟩
    rw [← unhide HL] at ib ⊢
    replace Ob := Ob.base (B' := w.heap.size + 1) HZ
    replace c0_0 := keepc hw c0_0
    replace c0_1 := keepc hw c0_1
    replace FR := hide ((unhide FR).below hw)
    replace HZ := Nat.le_trans HZ hw.size
    clear hw
    have kG := Blk.new w4 24 #[.bool (decide (parseIV L < 0)), .slice Ab nb cb]
    have zG1 := HZ
    have hnew := below_new w4 (.cells #[.bool (decide (parseIV L < 0)), .slice Ab nb cb] 24)
    replace c0_0 := keepc hnew c0_0
    replace c0_1 := keepc hnew c0_1
    replace FR := hide ((unhide FR).below hnew)
    replace Ob := Ob.below hnew
    replace ib := ib.below hnew
    replace HZ := Nat.le_trans HZ hnew.size
    have cG1_0 := kG.cell 0
    have cG1_1 := kG.cell 1
    clear hnew kG
    go_wp2_with fail
    obtain ⟨w5, hn⟩ : ∃ w5, w5 = (w4.alloc (.cells #[.bool (decide (parseIV L < 0)), .slice Ab nb cb] 24)) := ⟨_, rfl⟩
    rw [← hn] at c0_0 c0_1 cG1_0 cG1_1 FR HZ Ob ib
    rw [← hn]
    clear hn
    obtain ⟨G1, hgG1⟩ : ∃ G1, G1 = w4.heap.size := ⟨_, rfl⟩
    rw [← hgG1] at cG1_0 cG1_1 zG1
    rw [← hgG1]
    clear hgG1 zG1
    refine (rparse_c s hs _).mono ?_
    rintro e w6 ⟨Ac, nc, cc, lc, rfl, Nc, Oc, ic, hw⟩
    rw [← unhide HL] at ic ⊢
    replace Oc := Oc.base (B' := w.heap.size + 1) HZ
    replace c0_0 := keepc hw c0_0
    replace c0_1 := keepc hw c0_1
    replace cG1_0 := keepc hw cG1_0
    replace cG1_1 := keepc hw cG1_1
    replace FR := hide ((unhide FR).below hw)
    replace Ob := Ob.below hw
    replace ib := ib.below hw
    replace HZ := Nat.le_trans HZ hw.size
    clear hw
    have kG := Blk.new w6 24 #[.bool (decide (parseIV L < 0)), .slice Ac nc cc]
    have zG2 := HZ
    have hnew := below_new w6 (.cells #[.bool (decide (parseIV L < 0)), .slice Ac nc cc] 24)
    replace c0_0 := keepc hnew c0_0
    replace c0_1 := keepc hnew c0_1
    replace cG1_0 := keepc hnew cG1_0
    replace cG1_1 := keepc hnew cG1_1
    replace FR := hide ((unhide FR).below hnew)
    replace Ob := Ob.below hnew
    replace ib := ib.below hnew
    replace Oc := Oc.below hnew
    replace ic := ic.below hnew
    replace HZ := Nat.le_trans HZ hnew.size
    have cG2_0 := kG.cell 0
    have cG2_1 := kG.cell 1
    clear hnew kG
    go_wp2_with fail
    obtain ⟨w7, hn⟩ : ∃ w7, w7 = (w6.alloc (.cells #[.bool (decide (parseIV L < 0)), .slice Ac nc cc] 24)) := ⟨_, rfl⟩
    rw [← hn] at c0_0 c0_1 cG1_0 cG1_1 cG2_0 cG2_1 FR HZ Ob ib Oc ic
    rw [← hn]
    clear hn
    obtain ⟨G2, hgG2⟩ : ∃ G2, G2 = w6.heap.size := ⟨_, rfl⟩
    rw [← hgG2] at cG2_0 cG2_1 zG2
    rw [← hgG2]
    clear hgG2 zG2
    refine (iformat_c _ ((unhide FR).ii ia) (by omega)).mono ?_
    rintro e w8 ⟨rfl, hw⟩
    unfold strOf
    replace c0_0 := keepc hw c0_0
    replace c0_1 := keepc hw c0_1
    replace cG1_0 := keepc hw cG1_0
    replace cG1_1 := keepc hw cG1_1
    replace cG2_0 := keepc hw cG2_0
    replace cG2_1 := keepc hw cG2_1
    replace FR := hide ((unhide FR).below hw)
    replace Ob := Ob.below hw
    replace ib := ib.below hw
    replace Oc := Oc.below hw
    replace ic := ic.below hw
    replace HZ := Nat.le_trans HZ hw.size
    clear hw
    go_wp2_with fail
    have hdl : (ByteArray.mk (fmtI xa).toArray).data.toList = fmtI xa := by simp
    have hdz : (ByteArray.mk (fmtI xa).toArray).size ≤ 9223372036854775807 := by show (fmtI xa).toArray.size ≤ _; rw [List.size_toArray]; omega
    refine (iparse_c _ hdz _).mono ?_
    rintro e w9 ⟨Ad, nd, cd, ld, rfl, Nd, Od, id, hw⟩
    rw [hdl] at id ⊢
    rw [(unhide RT).2] at id ⊢
    rw [(unhide RT).1]
    clear hdl hdz
    replace Od := Od.base (B' := w.heap.size + 1) HZ
    replace c0_0 := keepc hw c0_0
    replace c0_1 := keepc hw c0_1
    replace cG1_0 := keepc hw cG1_0
    replace cG1_1 := keepc hw cG1_1
    replace cG2_0 := keepc hw cG2_0
    replace cG2_1 := keepc hw cG2_1
    replace FR := hide ((unhide FR).below hw)
    replace Ob := Ob.below hw
    replace ib := ib.below hw
    replace Oc := Oc.below hw
    replace ic := ic.below hw
    replace HZ := Nat.le_trans HZ hw.size
    clear hw
    have kG := Blk.new w9 24 #[.bool (decide (xa < 0)), .slice Ad nd cd]
    have zG3 := HZ
    have hnew := below_new w9 (.cells #[.bool (decide (xa < 0)), .slice Ad nd cd] 24)
    replace c0_0 := keepc hnew c0_0
    replace c0_1 := keepc hnew c0_1
    replace cG1_0 := keepc hnew cG1_0
    replace cG1_1 := keepc hnew cG1_1
    replace cG2_0 := keepc hnew cG2_0
    replace cG2_1 := keepc hnew cG2_1
    replace FR := hide ((unhide FR).below hnew)
    replace Ob := Ob.below hnew
    replace ib := ib.below hnew
    replace Oc := Oc.below hnew
    replace ic := ic.below hnew
    replace Od := Od.below hnew
    replace id := id.below hnew
    replace HZ := Nat.le_trans HZ hnew.size
    have cG3_0 := kG.cell 0
    have cG3_1 := kG.cell 1
    clear hnew kG
    go_wp2_with fail
    obtain ⟨w10, hn⟩ : ∃ w10, w10 = (w9.alloc (.cells #[.bool (decide (xa < 0)), .slice Ad nd cd] 24)) := ⟨_, rfl⟩
    rw [← hn] at c0_0 c0_1 cG1_0 cG1_1 cG2_0 cG2_1 cG3_0 cG3_1 FR HZ Ob ib Oc ic Od id
    rw [← hn]
    clear hn
    obtain ⟨G3, hgG3⟩ : ∃ G3, G3 = w9.heap.size := ⟨_, rfl⟩
    rw [← hgG3] at cG3_0 cG3_1 zG3
    rw [← hgG3]
    clear hgG3 zG3
    by_cases hE : parseIE L = 0
    · have HE := hide hE
      rw [hE]
      clear hE
      have hS := And.intro c0_0 (And.intro c0_1 (And.intro cG1_0 (And.intro cG1_1 (And.intro cG2_0 (And.intro cG2_1 (And.intro cG3_0 (And.intro cG3_1 (FR))))))))
      clear c0_0 c0_1 cG1_0 cG1_1 cG2_0 cG2_1 cG3_0 cG3_1 FR
      refine wp_region_noPanic ?_
      refine wp_region_WL (S := fun w' => w'.cell? ⟨w.heap.size, 0, none⟩ = some (.bool sa) ∧ w'.cell? ⟨w.heap.size, 1, none⟩ = some (.slice Aa na ca) ∧ w'.cell? ⟨G1, 0, none⟩ = some (.bool (decide (parseIV L < 0))) ∧ w'.cell? ⟨G1, 1, none⟩ = some (.slice Ab nb cb) ∧ w'.cell? ⟨G2, 0, none⟩ = some (.bool (decide (parseIV L < 0))) ∧ w'.cell? ⟨G2, 1, none⟩ = some (.slice Ac nc cc) ∧ w'.cell? ⟨G3, 0, none⟩ = some (.bool (decide (xa < 0))) ∧ w'.cell? ⟨G3, 1, none⟩ = some (.slice Ad nd cd) ∧ Hid (Fr w [] w')) (T := fun i => false) 41 #[false, false, false, false, false, false, false, false, false, false, false, false, false, false, false, false, false, false, false, false, false, false, false, false, false, false, false, false, false, false, false, false, false, false, false, false, false, false, false, false, false] rfl rfl (by kernel_rfl) (drew8 hS) (fun hV0 => ?_)
      clear hS
      replace Ob := Ob.drew
      replace ib := ib.drew
      replace Oc := Oc.drew
      replace ic := ic.drew
      replace Od := Od.drew
      replace id := id.drew
      replace HZ : w.heap.size + 1 ≤ w10.drew.heap.size := HZ
      obtain ⟨w11, hn⟩ : ∃ w11, w11 = w10.drew := ⟨_, rfl⟩
      rw [← hn] at hV0 HZ Ob ib Oc ic Od id
      rw [← hn]
      clear hn
      refine wpAnyW_takeL (i := 0) (v := ?_) (L := #[true, false, false, false, false, false, false, false, false, false, false, false, false, false, false, false, false, false, false, false, false, false, false, false, false, false, false, false, false, false, false, false, false, false, false, false, false, false, false, false, false]) (some 39) rfl (by kernel_rfl) (by kernel_rfl) (by kernel_rfl) (by kernel_rfl) (by kernel_rfl) (by kernel_rfl) (fun _ _ _ h => h) (by kernel_rfl) (by assumption) (by kernel_rfl) ?_ ?_
      rotate_left
      · (intro W1 hSw; (try dsimp only at hSw); go_simp; try with_reducible rfl)
      try simp only [Act.put, List.setIfInBounds_toArray, List.set_cons_zero, List.set_cons_succ]
      refine wpAnyW_takeL (i := 1) (v := ?_) (L := #[true, true, false, false, false, false, false, false, false, false, false, false, false, false, false, false, false, false, false, false, false, false, false, false, false, false, false, false, false, false, false, false, false, false, false, false, false, false, false, false, false]) (some 40) rfl (by kernel_rfl) (by kernel_rfl) (by kernel_rfl) (by kernel_rfl) (by kernel_rfl) (by kernel_rfl) (fun _ _ _ h => h) (by kernel_rfl) (by assumption) (by kernel_rfl) ?_ ?_
      rotate_left
      · (intro W1 hSw; (try dsimp only at hSw); go_simp; try with_reducible rfl)
      try simp only [Act.put, List.setIfInBounds_toArray, List.set_cons_zero, List.set_cons_succ]
      refine wpAnyW_one (i := 2) (L := #[true, true, true, false, false, false, false, false, false, false, false, false, false, false, false, false, false, false, false, false, false, false, false, false, false, false, false, false, false, false, false, false, false, false, false, false, false, false, false, false, false]) (by kernel_rfl) rfl rfl (by kernel_rfl) (by kernel_rfl) (fun K hK => ?_)
      go_simp
      refine (isame_v _ Nb Nc ib ic).mono ?_
      rintro e w12 ⟨rfl, hw⟩
      replace Ob := Ob.below hw
      replace ib := ib.below hw
      replace Oc := Oc.below hw
      replace ic := ic.below hw
      replace Od := Od.below hw
      replace id := id.below hw
      replace HZ := Nat.le_trans HZ hw.size
      refine hK.out _ _ (keep8 (by assumption) hw) (fun hV12 => ?_)
      clear hK K
      try simp only [Act.put, List.setIfInBounds_toArray, List.set_cons_zero, List.set_cons_succ]
      clear hw
      refine wpAnyW_takeL (i := 3) (v := ?_) (L := #[true, true, true, true, false, false, false, false, false, false, false, false, false, false, false, false, false, false, false, false, false, false, false, false, false, false, false, false, false, false, false, false, false, false, false, false, false, false, false, false, false]) (some 42) rfl (by kernel_rfl) (by kernel_rfl) (by kernel_rfl) (by kernel_rfl) (by kernel_rfl) (by kernel_rfl) (fun _ _ _ h => h) (by kernel_rfl) (by assumption) (by kernel_rfl) ?_ ?_
      rotate_left
      · (intro W1 hSw; (try dsimp only at hSw); go_simp; try with_reducible rfl)
      try simp only [Act.put, List.setIfInBounds_toArray, List.set_cons_zero, List.set_cons_succ]
      refine wpAnyW_takeL (i := 4) (v := ?_) (L := #[true, true, true, true, true, false, false, false, false, false, false, false, false, false, false, false, false, false, false, false, false, false, false, false, false, false, false, false, false, false, false, false, false, false, false, false, false, false, false, false, false]) (some 43) rfl (by kernel_rfl) (by kernel_rfl) (by kernel_rfl) (by kernel_rfl) (by kernel_rfl) (by kernel_rfl) (fun _ _ _ h => h) (by kernel_rfl) (by assumption) (by kernel_rfl) ?_ ?_
      rotate_left
      · (intro W1 hSw; (try dsimp only at hSw); go_simp; try with_reducible rfl)
      try simp only [Act.put, List.setIfInBounds_toArray, List.set_cons_zero, List.set_cons_succ]
      refine wpAnyW_takeL (i := 5) (v := ?_) (L := #[true, true, true, true, true, true, false, false, false, false, false, false, false, false, false, false, false, false, false, false, false, false, false, false, false, false, false, false, false, false, false, false, false, false, false, false, false, false, false, false, false]) (some 44) rfl (by kernel_rfl) (by kernel_rfl) (by kernel_rfl) (by kernel_rfl) (by kernel_rfl) (by kernel_rfl) (fun _ _ _ h => h) (by kernel_rfl) (by assumption) (by kernel_rfl) ?_ ?_
      rotate_left
      · (intro W1 hSw; (try dsimp only at hSw); go_simp; try with_reducible rfl)
      try simp only [Act.put, List.setIfInBounds_toArray, List.set_cons_zero, List.set_cons_succ]
      refine wpAnyW_takeL (i := 6) (v := ?_) (L := #[true, true, true, true, true, true, true, false, false, false, false, false, false, false, false, false, false, false, false, false, false, false, false, false, false, false, false, false, false, false, false, false, false, false, false, false, false, false, false, false, false]) (some 45) rfl (by kernel_rfl) (by kernel_rfl) (by kernel_rfl) (by kernel_rfl) (by kernel_rfl) (by kernel_rfl) (fun _ _ _ h => h) (by kernel_rfl) (by assumption) (by kernel_rfl) ?_ ?_
      rotate_left
      · (intro W1 hSw; (try dsimp only at hSw); go_simp; try with_reducible rfl)
      try simp only [Act.put, List.setIfInBounds_toArray, List.set_cons_zero, List.set_cons_succ]
      refine wpAnyW_takeL (i := 7) (v := ?_) (L := #[true, true, true, true, true, true, true, true, false, false, false, false, false, false, false, false, false, false, false, false, false, false, false, false, false, false, false, false, false, false, false, false, false, false, false, false, false, false, false, false, false]) (some 46) rfl (by kernel_rfl) (by kernel_rfl) (by kernel_rfl) (by kernel_rfl) (by kernel_rfl) (by kernel_rfl) (fun _ _ _ h => h) (by kernel_rfl) (by assumption) (by kernel_rfl) ?_ ?_
      rotate_left
      · (intro W1 hSw; (try dsimp only at hSw); go_simp; try with_reducible rfl)
      try simp only [Act.put, List.setIfInBounds_toArray, List.set_cons_zero, List.set_cons_succ]
      refine wpAnyW_takeL (i := 8) (v := ?_) (L := #[true, true, true, true, true, true, true, true, true, false, false, false, false, false, false, false, false, false, false, false, false, false, false, false, false, false, false, false, false, false, false, false, false, false, false, false, false, false, false, false, false]) (some 47) rfl (by kernel_rfl) (by kernel_rfl) (by kernel_rfl) (by kernel_rfl) (by kernel_rfl) (by kernel_rfl) (fun _ _ _ h => h) (by kernel_rfl) (by assumption) (by kernel_rfl) ?_ ?_
      rotate_left
      · (intro W1 hSw; (try dsimp only at hSw); go_simp; try with_reducible rfl)
      try simp only [Act.put, List.setIfInBounds_toArray, List.set_cons_zero, List.set_cons_succ]
      refine wpAnyW_takeL (i := 9) (v := ?_) (L := #[true, true, true, true, true, true, true, true, true, true, false, false, false, false, false, false, false, false, false, false, false, false, false, false, false, false, false, false, false, false, false, false, false, false, false, false, false, false, false, false, false]) (some 48) rfl (by kernel_rfl) (by kernel_rfl) (by kernel_rfl) (by kernel_rfl) (by kernel_rfl) (by kernel_rfl) (fun _ _ _ h => h) (by kernel_rfl) (by assumption) (by kernel_rfl) ?_ ?_
      rotate_left
      · (intro W1 hSw; (try dsimp only at hSw); go_simp; try with_reducible rfl)
      try simp only [Act.put, List.setIfInBounds_toArray, List.set_cons_zero, List.set_cons_succ]
      refine wpAnyW_takeL (i := 10) (v := ?_) (L := #[true, true, true, true, true, true, true, true, true, true, true, false, false, false, false, false, false, false, false, false, false, false, false, false, false, false, false, false, false, false, false, false, false, false, false, false, false, false, false, false, false]) (some 49) rfl (by kernel_rfl) (by kernel_rfl) (by kernel_rfl) (by kernel_rfl) (by kernel_rfl) (by kernel_rfl) (fun _ _ _ h => h) (by kernel_rfl) (by assumption) (by kernel_rfl) ?_ ?_
      rotate_left
      · (intro W1 hSw; (try dsimp only at hSw); go_simp; try with_reducible rfl)
      try simp only [Act.put, List.setIfInBounds_toArray, List.set_cons_zero, List.set_cons_succ]
      refine wpAnyW_one (i := 11) (L := #[true, true, true, true, true, true, true, true, true, true, true, true, false, false, false, false, false, false, false, false, false, false, false, false, false, false, false, false, false, false, false, false, false, false, false, false, false, false, false, false, false]) (by kernel_rfl) rfl rfl (by kernel_rfl) (by kernel_rfl) (fun K hK => ?_)
      go_simp
      refine (rformat_c _ (Fr.ii (to8 (by assumption)) ia) (by omega)).mono ?_
      rintro e w13 ⟨rfl, hw⟩
      unfold strOf
      replace Ob := Ob.below hw
      replace ib := ib.below hw
      replace Oc := Oc.below hw
      replace ic := ic.below hw
      replace Od := Od.below hw
      replace id := id.below hw
      replace HZ := Nat.le_trans HZ hw.size
      refine hK.out _ _ (keep8 (by assumption) hw) (fun hV13 => ?_)
      clear hK K
      try simp only [Act.put, List.setIfInBounds_toArray, List.set_cons_zero, List.set_cons_succ]
      clear hw
      refine wpAnyW_takeL (i := 12) (v := ?_) (L := #[true, true, true, true, true, true, true, true, true, true, true, true, true, false, false, false, false, false, false, false, false, false, false, false, false, false, false, false, false, false, false, false, false, false, false, false, false, false, false, false, false]) (some 51) rfl (by kernel_rfl) (by kernel_rfl) (by kernel_rfl) (by kernel_rfl) (by kernel_rfl) (by kernel_rfl) (fun _ _ _ h => h) (by kernel_rfl) (by assumption) (by kernel_rfl) ?_ ?_
      rotate_left
      · (intro W1 hSw; (try dsimp only at hSw); go_simp; try with_reducible rfl)
      try simp only [Act.put, List.setIfInBounds_toArray, List.set_cons_zero, List.set_cons_succ]
      refine wpAnyW_takeL (i := 13) (v := ?_) (L := #[true, true, true, true, true, true, true, true, true, true, true, true, true, true, false, false, false, false, false, false, false, false, false, false, false, false, false, false, false, false, false, false, false, false, false, false, false, false, false, false, false]) (some 52) rfl (by kernel_rfl) (by kernel_rfl) (by kernel_rfl) (by kernel_rfl) (by kernel_rfl) (by kernel_rfl) (fun _ _ _ h => h) (by kernel_rfl) (by assumption) (by kernel_rfl) ?_ ?_
      rotate_left
      · (intro W1 hSw; (try dsimp only at hSw); go_simp; try with_reducible rfl)
      try simp only [Act.put, List.setIfInBounds_toArray, List.set_cons_zero, List.set_cons_succ]
      refine wpAnyW_takeL (i := 14) (v := ?_) (L := #[true, true, true, true, true, true, true, true, true, true, true, true, true, true, true, false, false, false, false, false, false, false, false, false, false, false, false, false, false, false, false, false, false, false, false, false, false, false, false, false, false]) (some 53) rfl (by kernel_rfl) (by kernel_rfl) (by kernel_rfl) (by kernel_rfl) (by kernel_rfl) (by kernel_rfl) (fun _ _ _ h => h) (by kernel_rfl) (by assumption) (by kernel_rfl) ?_ ?_
      rotate_left
      · (intro W1 hSw; (try dsimp only at hSw); go_simp; try with_reducible rfl)
      try simp only [Act.put, List.setIfInBounds_toArray, List.set_cons_zero, List.set_cons_succ]
      refine wpAnyW_takeL (i := 15) (v := ?_) (L := #[true, true, true, true, true, true, true, true, true, true, true, true, true, true, true, true, false, false, false, false, false, false, false, false, false, false, false, false, false, false, false, false, false, false, false, false, false, false, false, false, false]) (some 54) rfl (by kernel_rfl) (by kernel_rfl) (by kernel_rfl) (by kernel_rfl) (by kernel_rfl) (by kernel_rfl) (fun _ _ _ h => h) (by kernel_rfl) (by assumption) (by kernel_rfl) ?_ ?_
      rotate_left
      · (intro W1 hSw; (try dsimp only at hSw); go_simp; try with_reducible rfl)
      try simp only [Act.put, List.setIfInBounds_toArray, List.set_cons_zero, List.set_cons_succ]
      refine wpAnyW_takeL (i := 16) (v := ?_) (L := #[true, true, true, true, true, true, true, true, true, true, true, true, true, true, true, true, true, false, false, false, false, false, false, false, false, false, false, false, false, false, false, false, false, false, false, false, false, false, false, false, false]) (some 55) rfl (by kernel_rfl) (by kernel_rfl) (by kernel_rfl) (by kernel_rfl) (by kernel_rfl) (by kernel_rfl) (fun _ _ _ h => h) (by kernel_rfl) (by assumption) (by kernel_rfl) ?_ ?_
      rotate_left
      · (intro W1 hSw; (try dsimp only at hSw); go_simp; try with_reducible rfl)
      try simp only [Act.put, List.setIfInBounds_toArray, List.set_cons_zero, List.set_cons_succ]
      refine wpAnyW_takeL (i := 17) (v := ?_) (L := #[true, true, true, true, true, true, true, true, true, true, true, true, true, true, true, true, true, true, false, false, false, false, false, false, false, false, false, false, false, false, false, false, false, false, false, false, false, false, false, false, false]) (some 56) rfl (by kernel_rfl) (by kernel_rfl) (by kernel_rfl) (by kernel_rfl) (by kernel_rfl) (by kernel_rfl) (fun _ _ _ h => h) (by kernel_rfl) (by assumption) (by kernel_rfl) ?_ ?_
      rotate_left
      · (intro W1 hSw; (try dsimp only at hSw); go_simp; try with_reducible rfl)
      try simp only [Act.put, List.setIfInBounds_toArray, List.set_cons_zero, List.set_cons_succ]
      refine wpAnyW_takeL (i := 18) (v := ?_) (L := #[true, true, true, true, true, true, true, true, true, true, true, true, true, true, true, true, true, true, true, false, false, false, false, false, false, false, false, false, false, false, false, false, false, false, false, false, false, false, false, false, false]) (some 57) rfl (by kernel_rfl) (by kernel_rfl) (by kernel_rfl) (by kernel_rfl) (by kernel_rfl) (by kernel_rfl) (fun _ _ _ h => h) (by kernel_rfl) (by assumption) (by kernel_rfl) ?_ ?_
      rotate_left
      · (intro W1 hSw; (try dsimp only at hSw); go_simp; try with_reducible rfl)
      try simp only [Act.put, List.setIfInBounds_toArray, List.set_cons_zero, List.set_cons_succ]
      refine wpAnyW_takeL (i := 19) (v := ?_) (L := #[true, true, true, true, true, true, true, true, true, true, true, true, true, true, true, true, true, true, true, true, false, false, false, false, false, false, false, false, false, false, false, false, false, false, false, false, false, false, false, false, false]) (some 58) rfl (by kernel_rfl) (by kernel_rfl) (by kernel_rfl) (by kernel_rfl) (by kernel_rfl) (by kernel_rfl) (fun _ _ _ h => h) (by kernel_rfl) (by assumption) (by kernel_rfl) ?_ ?_
      rotate_left
      · (intro W1 hSw; (try dsimp only at hSw); go_simp; try with_reducible rfl)
      try simp only [Act.put, List.setIfInBounds_toArray, List.set_cons_zero, List.set_cons_succ]
      refine wpAnyW_one (i := 20) (L := #[true, true, true, true, true, true, true, true, true, true, true, true, true, true, true, true, true, true, true, true, true, false, false, false, false, false, false, false, false, false, false, false, false, false, false, false, false, false, false, false, false]) (by kernel_rfl) rfl rfl (by kernel_rfl) (by kernel_rfl) (fun K hK => ?_)
      go_simp
      refine (rnew_v (K := 40) _ (Fr.ii (to8 (by assumption)) ia) (Nat.le_refl _) (by omega)).mono ?_
      rintro e w14 ⟨Ae, ne, ce, le, rfl, Ne, Oe, ie, hw⟩
      replace Oe := Oe.base (B' := w.heap.size + 1) HZ
      replace Ob := Ob.below hw
      replace ib := ib.below hw
      replace Oc := Oc.below hw
      replace ic := ic.below hw
      replace Od := Od.below hw
      replace id := id.below hw
      replace HZ := Nat.le_trans HZ hw.size
      refine hK.out _ _ (keep8 (by assumption) hw) (fun hV14 => ?_)
      clear hK K
      try simp only [Act.put, List.setIfInBounds_toArray, List.set_cons_zero, List.set_cons_succ]
      clear hw
      refine wpAnyW_one (i := 21) (L := #[true, true, true, true, true, true, true, true, true, true, true, true, true, true, true, true, true, true, true, true, true, true, false, false, false, false, false, false, false, false, false, false, false, false, false, false, false, false, false, false, false]) (by kernel_rfl) rfl rfl (by kernel_rfl) (by kernel_rfl) (fun K hK => ?_)
      go_simp
      refine (isame_v _ Nd Ne id ie).mono ?_
      rintro e w15 ⟨rfl, hw⟩
      replace Ob := Ob.below hw
      replace ib := ib.below hw
      replace Oc := Oc.below hw
      replace ic := ic.below hw
      replace Od := Od.below hw
      replace id := id.below hw
      replace Oe := Oe.below hw
      replace ie := ie.below hw
      replace HZ := Nat.le_trans HZ hw.size
      refine hK.out _ _ (keep8 (by assumption) hw) (fun hV15 => ?_)
      clear hK K
      try simp only [Act.put, List.setIfInBounds_toArray, List.set_cons_zero, List.set_cons_succ]
      clear hw
      refine wpAnyW_takeL (i := 22) (v := ?_) (L := #[true, true, true, true, true, true, true, true, true, true, true, true, true, true, true, true, true, true, true, true, true, true, true, false, false, false, false, false, false, false, false, false, false, false, false, false, false, false, false, false, false]) (some 61) rfl (by kernel_rfl) (by kernel_rfl) (by kernel_rfl) (by kernel_rfl) (by kernel_rfl) (by kernel_rfl) (fun _ _ _ h => h) (by kernel_rfl) (by assumption) (by kernel_rfl) ?_ ?_
      rotate_left
      · (intro W1 hSw; (try dsimp only at hSw); go_simp; try with_reducible rfl)
      try simp only [Act.put, List.setIfInBounds_toArray, List.set_cons_zero, List.set_cons_succ]
      refine wpAnyW_takeL (i := 23) (v := ?_) (L := #[true, true, true, true, true, true, true, true, true, true, true, true, true, true, true, true, true, true, true, true, true, true, true, true, false, false, false, false, false, false, false, false, false, false, false, false, false, false, false, false, false]) (some 62) rfl (by kernel_rfl) (by kernel_rfl) (by kernel_rfl) (by kernel_rfl) (by kernel_rfl) (by kernel_rfl) (fun _ _ _ h => h) (by kernel_rfl) (by assumption) (by kernel_rfl) ?_ ?_
      rotate_left
      · (intro W1 hSw; (try dsimp only at hSw); go_simp; try with_reducible rfl)
      try simp only [Act.put, List.setIfInBounds_toArray, List.set_cons_zero, List.set_cons_succ]
      refine wpAnyW_takeL (i := 24) (v := ?_) (L := #[true, true, true, true, true, true, true, true, true, true, true, true, true, true, true, true, true, true, true, true, true, true, true, true, true, false, false, false, false, false, false, false, false, false, false, false, false, false, false, false, false]) (some 63) rfl (by kernel_rfl) (by kernel_rfl) (by kernel_rfl) (by kernel_rfl) (by kernel_rfl) (by kernel_rfl) (fun _ _ _ h => h) (by kernel_rfl) (by assumption) (by kernel_rfl) ?_ ?_
      rotate_left
      · (intro W1 hSw; (try dsimp only at hSw); go_simp; try with_reducible rfl)
      try simp only [Act.put, List.setIfInBounds_toArray, List.set_cons_zero, List.set_cons_succ]
      refine wpAnyW_takeL (i := 25) (v := ?_) (L := #[true, true, true, true, true, true, true, true, true, true, true, true, true, true, true, true, true, true, true, true, true, true, true, true, true, true, false, false, false, false, false, false, false, false, false, false, false, false, false, false, false]) (some 64) rfl (by kernel_rfl) (by kernel_rfl) (by kernel_rfl) (by kernel_rfl) (by kernel_rfl) (by kernel_rfl) (fun _ _ _ h => h) (by kernel_rfl) (by assumption) (by kernel_rfl) ?_ ?_
      rotate_left
      · (intro W1 hSw; (try dsimp only at hSw); go_simp; try with_reducible rfl)
      try simp only [Act.put, List.setIfInBounds_toArray, List.set_cons_zero, List.set_cons_succ]
      refine wpAnyW_takeL (i := 26) (v := ?_) (L := #[true, true, true, true, true, true, true, true, true, true, true, true, true, true, true, true, true, true, true, true, true, true, true, true, true, true, true, false, false, false, false, false, false, false, false, false, false, false, false, false, false]) (some 65) rfl (by kernel_rfl) (by kernel_rfl) (by kernel_rfl) (by kernel_rfl) (by kernel_rfl) (by kernel_rfl) (fun _ _ _ h => h) (by kernel_rfl) (by assumption) (by kernel_rfl) ?_ ?_
      rotate_left
      · (intro W1 hSw; (try dsimp only at hSw); go_simp; try with_reducible rfl)
      try simp only [Act.put, List.setIfInBounds_toArray, List.set_cons_zero, List.set_cons_succ]
      refine wpAnyW_takeL (i := 27) (v := ?_) (L := #[true, true, true, true, true, true, true, true, true, true, true, true, true, true, true, true, true, true, true, true, true, true, true, true, true, true, true, true, false, false, false, false, false, false, false, false, false, false, false, false, false]) (some 66) rfl (by kernel_rfl) (by kernel_rfl) (by kernel_rfl) (by kernel_rfl) (by kernel_rfl) (by kernel_rfl) (fun _ _ _ h => h) (by kernel_rfl) (by assumption) (by kernel_rfl) ?_ ?_
      rotate_left
      · (intro W1 hSw; (try dsimp only at hSw); go_simp; try with_reducible rfl)
      try simp only [Act.put, List.setIfInBounds_toArray, List.set_cons_zero, List.set_cons_succ]
      refine wpAnyW_takeL (i := 28) (v := ?_) (L := #[true, true, true, true, true, true, true, true, true, true, true, true, true, true, true, true, true, true, true, true, true, true, true, true, true, true, true, true, true, false, false, false, false, false, false, false, false, false, false, false, false]) (some 67) rfl (by kernel_rfl) (by kernel_rfl) (by kernel_rfl) (by kernel_rfl) (by kernel_rfl) (by kernel_rfl) (fun _ _ _ h => h) (by kernel_rfl) (by assumption) (by kernel_rfl) ?_ ?_
      rotate_left
      · (intro W1 hSw; (try dsimp only at hSw); go_simp; try with_reducible rfl)
      try simp only [Act.put, List.setIfInBounds_toArray, List.set_cons_zero, List.set_cons_succ]
      refine wpAnyW_takeL (i := 29) (v := ?_) (L := #[true, true, true, true, true, true, true, true, true, true, true, true, true, true, true, true, true, true, true, true, true, true, true, true, true, true, true, true, true, true, false, false, false, false, false, false, false, false, false, false, false]) (some 68) rfl (by kernel_rfl) (by kernel_rfl) (by kernel_rfl) (by kernel_rfl) (by kernel_rfl) (by kernel_rfl) (fun _ _ _ h => h) (by kernel_rfl) (by assumption) (by kernel_rfl) ?_ ?_
      rotate_left
      · (intro W1 hSw; (try dsimp only at hSw); go_simp; try with_reducible rfl)
      try simp only [Act.put, List.setIfInBounds_toArray, List.set_cons_zero, List.set_cons_succ]
      refine wpAnyW_takeL (i := 30) (v := ?_) (L := #[true, true, true, true, true, true, true, true, true, true, true, true, true, true, true, true, true, true, true, true, true, true, true, true, true, true, true, true, true, true, true, false, false, false, false, false, false, false, false, false, false]) (some 69) rfl (by kernel_rfl) (by kernel_rfl) (by kernel_rfl) (by kernel_rfl) (by kernel_rfl) (by kernel_rfl) (fun _ _ _ h => h) (by kernel_rfl) (by assumption) (by kernel_rfl) ?_ ?_
      rotate_left
      · (intro W1 hSw; (try dsimp only at hSw); go_simp; try with_reducible rfl)
      try simp only [Act.put, List.setIfInBounds_toArray, List.set_cons_zero, List.set_cons_succ]
      refine wpAnyW_takeL (i := 31) (v := ?_) (L := #[true, true, true, true, true, true, true, true, true, true, true, true, true, true, true, true, true, true, true, true, true, true, true, true, true, true, true, true, true, true, true, true, false, false, false, false, false, false, false, false, false]) (some 70) rfl (by kernel_rfl) (by kernel_rfl) (by kernel_rfl) (by kernel_rfl) (by kernel_rfl) (by kernel_rfl) (fun _ _ _ h => h) (by kernel_rfl) (by assumption) (by kernel_rfl) ?_ ?_
      rotate_left
      · (intro W1 hSw; (try dsimp only at hSw); go_simp; try with_reducible rfl)
      try simp only [Act.put, List.setIfInBounds_toArray, List.set_cons_zero, List.set_cons_succ]
      refine wpAnyW_takeL (i := 33) (v := ?_) (L := #[true, true, true, true, true, true, true, true, true, true, true, true, true, true, true, true, true, true, true, true, true, true, true, true, true, true, true, true, true, true, true, true, false, true, false, false, false, false, false, false, false]) (some 72) rfl (by kernel_rfl) (by kernel_rfl) (by kernel_rfl) (by kernel_rfl) (by kernel_rfl) (by kernel_rfl) (fun _ _ _ h => h) (by kernel_rfl) (by assumption) (by kernel_rfl) ?_ ?_
      rotate_left
      · (intro W1 hSw; (try dsimp only at hSw); go_simp; try with_reducible rfl)
      try simp only [Act.put, List.setIfInBounds_toArray, List.set_cons_zero, List.set_cons_succ]
      refine wpAnyW_one (i := 32) (L := #[true, true, true, true, true, true, true, true, true, true, true, true, true, true, true, true, true, true, true, true, true, true, true, true, true, true, true, true, true, true, true, true, true, true, false, false, false, false, false, false, false]) (by kernel_rfl) rfl rfl (by kernel_rfl) (by kernel_rfl) (fun K hK => ?_)
      go_simp
      refine (iformat_c _ ib (by omega)).mono ?_
      rintro e w16 ⟨rfl, hw⟩
      rw [fmtI_parse (unhide HE), unhide HL]
      rw [strOf_list]
      replace Ob := Ob.below hw
      replace ib := ib.below hw
      replace Oc := Oc.below hw
      replace ic := ic.below hw
      replace Od := Od.below hw
      replace id := id.below hw
      replace Oe := Oe.below hw
      replace ie := ie.below hw
      replace HZ := Nat.le_trans HZ hw.size
      refine hK.out _ _ (keep8 (by assumption) hw) (fun hV16 => ?_)
      clear hK K
      try simp only [Act.put, List.setIfInBounds_toArray, List.set_cons_zero, List.set_cons_succ]
      clear hw
      refine wpAnyW_takeL (i := 34) (v := ?_) (L := #[true, true, true, true, true, true, true, true, true, true, true, true, true, true, true, true, true, true, true, true, true, true, true, true, true, true, true, true, true, true, true, true, true, true, true, false, false, false, false, false, false]) (some 73) rfl (by kernel_rfl) (by kernel_rfl) (by kernel_rfl) (by kernel_rfl) (by kernel_rfl) (by kernel_rfl) (fun _ _ _ h => h) (by kernel_rfl) (by assumption) (by kernel_rfl) ?_ ?_
      rotate_left
      · (intro W1 hSw; (try dsimp only at hSw); go_simp; try with_reducible rfl)
      try simp only [Act.put, List.setIfInBounds_toArray, List.set_cons_zero, List.set_cons_succ]
      refine wpAnyW_takeL (i := 35) (v := ?_) (L := #[true, true, true, true, true, true, true, true, true, true, true, true, true, true, true, true, true, true, true, true, true, true, true, true, true, true, true, true, true, true, true, true, true, true, true, true, false, false, false, false, false]) (some 74) rfl (by kernel_rfl) (by kernel_rfl) (by kernel_rfl) (by kernel_rfl) (by kernel_rfl) (by kernel_rfl) (fun _ _ _ h => h) (by kernel_rfl) (by assumption) (by kernel_rfl) ?_ ?_
      rotate_left
      · (intro W1 hSw; (try dsimp only at hSw); go_simp; try with_reducible rfl)
      try simp only [Act.put, List.setIfInBounds_toArray, List.set_cons_zero, List.set_cons_succ]
      refine wpAnyW_takeL (i := 36) (v := ?_) (L := #[true, true, true, true, true, true, true, true, true, true, true, true, true, true, true, true, true, true, true, true, true, true, true, true, true, true, true, true, true, true, true, true, true, true, true, true, true, false, false, false, false]) (some 75) rfl (by kernel_rfl) (by kernel_rfl) (by kernel_rfl) (by kernel_rfl) (by kernel_rfl) (by kernel_rfl) (fun _ _ _ h => h) (by kernel_rfl) (by assumption) (by kernel_rfl) ?_ ?_
      rotate_left
      · (intro W1 hSw; (try dsimp only at hSw); go_simp; try with_reducible rfl)
      try simp only [Act.put, List.setIfInBounds_toArray, List.set_cons_zero, List.set_cons_succ]
      refine wpAnyW_takeL (i := 37) (v := ?_) (L := #[true, true, true, true, true, true, true, true, true, true, true, true, true, true, true, true, true, true, true, true, true, true, true, true, true, true, true, true, true, true, true, true, true, true, true, true, true, true, false, false, false]) (some 76) rfl (by kernel_rfl) (by kernel_rfl) (by kernel_rfl) (by kernel_rfl) (by kernel_rfl) (by kernel_rfl) (fun _ _ _ h => h) (by kernel_rfl) (by assumption) (by kernel_rfl) ?_ ?_
      rotate_left
      · (intro W1 hSw; (try dsimp only at hSw); go_simp; try with_reducible rfl)
      try simp only [Act.put, List.setIfInBounds_toArray, List.set_cons_zero, List.set_cons_succ]
      refine wpAnyW_one (i := 38) (L := #[true, true, true, true, true, true, true, true, true, true, true, true, true, true, true, true, true, true, true, true, true, true, true, true, true, true, true, true, true, true, true, true, true, true, true, true, true, true, true, false, false]) (by kernel_rfl) rfl rfl (by kernel_rfl) (by kernel_rfl) (fun K hK => ?_)
      go_simp
      refine (iexample_c _).mono ?_
      rintro e w17 ⟨rfl, hw⟩
      replace Ob := Ob.below hw
      replace ib := ib.below hw
      replace Oc := Oc.below hw
      replace ic := ic.below hw
      replace Od := Od.below hw
      replace id := id.below hw
      replace Oe := Oe.below hw
      replace ie := ie.below hw
      replace HZ := Nat.le_trans HZ hw.size
      refine hK.out _ _ (keep8 (by assumption) hw) (fun hV17 => ?_)
      clear hK K
      try simp only [Act.put, List.setIfInBounds_toArray, List.set_cons_zero, List.set_cons_succ]
      clear hw
      refine wpAnyW_takeL (i := 39) (v := ?_) (L := #[true, true, true, true, true, true, true, true, true, true, true, true, true, true, true, true, true, true, true, true, true, true, true, true, true, true, true, true, true, true, true, true, true, true, true, true, true, true, true, true, false]) (some 78) rfl (by kernel_rfl) (by kernel_rfl) (by kernel_rfl) (by kernel_rfl) (by kernel_rfl) (by kernel_rfl) (fun _ _ _ h => h) (by kernel_rfl) (by assumption) (by kernel_rfl) ?_ ?_
      rotate_left
      · (intro W1 hSw; (try dsimp only at hSw); go_simp; try with_reducible rfl)
      try simp only [Act.put, List.setIfInBounds_toArray, List.set_cons_zero, List.set_cons_succ]
      refine wpAnyW_takeL (i := 40) (v := ?_) (L := #[true, true, true, true, true, true, true, true, true, true, true, true, true, true, true, true, true, true, true, true, true, true, true, true, true, true, true, true, true, true, true, true, true, true, true, true, true, true, true, true, true]) (some 4) rfl (by kernel_rfl) (by kernel_rfl) (by kernel_rfl) (by kernel_rfl) (by kernel_rfl) (by kernel_rfl) (fun _ _ _ h => h) (by kernel_rfl) (by assumption) (by kernel_rfl) ?_ ?_
      rotate_left
      · (intro W1 hSw; (try dsimp only at hSw); go_simp; try with_reducible rfl)
      try simp only [Act.put, List.setIfInBounds_toArray, List.set_cons_zero, List.set_cons_succ]
      refine wpAnyW_done (by kernel_rfl) ?_ _
      refine NoPanic.normal ?_
      have FR := hide (to8 (by assumption))
      go_wp2_with fail
      go_ret
      exact ⟨rfl, (unhide FR).bel⟩
    · obtain ⟨E, hEe⟩ : ∃ E, E = parseIE L := ⟨_, rfl⟩
      rw [← hEe] at hE ⊢
      have hE2 : (E != 0) = true := by simpa using hE
      have hE3 : (E == E) = true := by simp
      clear hE hEe
      have hS := And.intro c0_0 (And.intro c0_1 (And.intro cG1_0 (And.intro cG1_1 (And.intro cG2_0 (And.intro cG2_1 (And.intro cG3_0 (And.intro cG3_1 (FR))))))))
      clear c0_0 c0_1 cG1_0 cG1_1 cG2_0 cG2_1 cG3_0 cG3_1 FR
      refine wp_region_noPanic ?_
      refine wp_region_WL (S := fun w' => w'.cell? ⟨w.heap.size, 0, none⟩ = some (.bool sa) ∧ w'.cell? ⟨w.heap.size, 1, none⟩ = some (.slice Aa na ca) ∧ w'.cell? ⟨G1, 0, none⟩ = some (.bool (decide (parseIV L < 0))) ∧ w'.cell? ⟨G1, 1, none⟩ = some (.slice Ab nb cb) ∧ w'.cell? ⟨G2, 0, none⟩ = some (.bool (decide (parseIV L < 0))) ∧ w'.cell? ⟨G2, 1, none⟩ = some (.slice Ac nc cc) ∧ w'.cell? ⟨G3, 0, none⟩ = some (.bool (decide (xa < 0))) ∧ w'.cell? ⟨G3, 1, none⟩ = some (.slice Ad nd cd) ∧ Hid (Fr w [] w')) (T := fun i => false) 41 #[false, false, false, false, false, false, false, false, false, false, false, false, false, false, false, false, false, false, false, false, false, false, false, false, false, false, false, false, false, false, false, false, false, false, false, false, false, false, false, false, false] rfl rfl (by kernel_rfl) (drew8 hS) (fun hV0 => ?_)
      clear hS
      replace Ob := Ob.drew
      replace ib := ib.drew
      replace Oc := Oc.drew
      replace ic := ic.drew
      replace Od := Od.drew
      replace id := id.drew
      replace HZ : w.heap.size + 1 ≤ w10.drew.heap.size := HZ
      obtain ⟨w11, hn⟩ : ∃ w11, w11 = w10.drew := ⟨_, rfl⟩
      rw [← hn] at hV0 HZ Ob ib Oc ic Od id
      rw [← hn]
      clear hn
      refine wpAnyW_takeL (i := 0) (v := ?_) (L := #[true, false, false, false, false, false, false, false, false, false, false, false, false, false, false, false, false, false, false, false, false, false, false, false, false, false, false, false, false, false, false, false, false, false, false, false, false, false, false, false, false]) (some 39) rfl (by kernel_rfl) (by kernel_rfl) (by kernel_rfl) (by kernel_rfl) (by kernel_rfl) (by kernel_rfl) (fun _ _ _ h => h) (by kernel_rfl) (by assumption) (by kernel_rfl) ?_ ?_
      rotate_left
      · (intro W1 hSw; (try dsimp only at hSw); go_simp; try with_reducible rfl)
      try simp only [Act.put, List.setIfInBounds_toArray, List.set_cons_zero, List.set_cons_succ]
      refine wpAnyW_takeL (i := 1) (v := ?_) (L := #[true, true, false, false, false, false, false, false, false, false, false, false, false, false, false, false, false, false, false, false, false, false, false, false, false, false, false, false, false, false, false, false, false, false, false, false, false, false, false, false, false]) (some 40) rfl (by kernel_rfl) (by kernel_rfl) (by kernel_rfl) (by kernel_rfl) (by kernel_rfl) (by kernel_rfl) (fun _ _ _ h => h) (by kernel_rfl) (by assumption) (by kernel_rfl) ?_ ?_
      rotate_left
      · (intro W1 hSw; (try dsimp only at hSw); go_simp; try with_reducible rfl)
      try simp only [Act.put, List.setIfInBounds_toArray, List.set_cons_zero, List.set_cons_succ]
      refine wpAnyW_one (i := 2) (L := #[true, true, true, false, false, false, false, false, false, false, false, false, false, false, false, false, false, false, false, false, false, false, false, false, false, false, false, false, false, false, false, false, false, false, false, false, false, false, false, false, false]) (by kernel_rfl) rfl rfl (by kernel_rfl) (by kernel_rfl) (fun K hK => ?_)
      go_simp
      refine (isame_v _ Nb Nc ib ic).mono ?_
      rintro e w12 ⟨rfl, hw⟩
      replace Ob := Ob.below hw
      replace ib := ib.below hw
      replace Oc := Oc.below hw
      replace ic := ic.below hw
      replace Od := Od.below hw
      replace id := id.below hw
      replace HZ := Nat.le_trans HZ hw.size
      refine hK.out _ _ (keep8 (by assumption) hw) (fun hV12 => ?_)
      clear hK K
      try simp only [Act.put, List.setIfInBounds_toArray, List.set_cons_zero, List.set_cons_succ]
      clear hw
      refine wpAnyW_takeL (i := 3) (v := ?_) (L := #[true, true, true, true, false, false, false, false, false, false, false, false, false, false, false, false, false, false, false, false, false, false, false, false, false, false, false, false, false, false, false, false, false, false, false, false, false, false, false, false, false]) (some 42) rfl (by kernel_rfl) (by kernel_rfl) (by kernel_rfl) (by kernel_rfl) (by kernel_rfl) (by kernel_rfl) (fun _ _ _ h => h) (by kernel_rfl) (by assumption) (by kernel_rfl) ?_ ?_
      rotate_left
      · (intro W1 hSw; (try dsimp only at hSw); go_simp; try with_reducible rfl)
      try simp only [Act.put, List.setIfInBounds_toArray, List.set_cons_zero, List.set_cons_succ]
      refine wpAnyW_takeL (i := 4) (v := ?_) (L := #[true, true, true, true, true, false, false, false, false, false, false, false, false, false, false, false, false, false, false, false, false, false, false, false, false, false, false, false, false, false, false, false, false, false, false, false, false, false, false, false, false]) (some 43) rfl (by kernel_rfl) (by kernel_rfl) (by kernel_rfl) (by kernel_rfl) (by kernel_rfl) (by kernel_rfl) (fun _ _ _ h => h) (by kernel_rfl) (by assumption) (by kernel_rfl) ?_ ?_
      rotate_left
      · (intro W1 hSw; (try dsimp only at hSw); go_simp; try with_reducible rfl)
      try simp only [Act.put, List.setIfInBounds_toArray, List.set_cons_zero, List.set_cons_succ]
      refine wpAnyW_takeL (i := 5) (v := ?_) (L := #[true, true, true, true, true, true, false, false, false, false, false, false, false, false, false, false, false, false, false, false, false, false, false, false, false, false, false, false, false, false, false, false, false, false, false, false, false, false, false, false, false]) (some 44) rfl (by kernel_rfl) (by kernel_rfl) (by kernel_rfl) (by kernel_rfl) (by kernel_rfl) (by kernel_rfl) (fun _ _ _ h => h) (by kernel_rfl) (by assumption) (by kernel_rfl) ?_ ?_
      rotate_left
      · (intro W1 hSw; (try dsimp only at hSw); go_simp; try with_reducible rfl)
      try simp only [Act.put, List.setIfInBounds_toArray, List.set_cons_zero, List.set_cons_succ]
      refine wpAnyW_takeL (i := 6) (v := ?_) (L := #[true, true, true, true, true, true, true, false, false, false, false, false, false, false, false, false, false, false, false, false, false, false, false, false, false, false, false, false, false, false, false, false, false, false, false, false, false, false, false, false, false]) (some 45) rfl (by kernel_rfl) (by kernel_rfl) (by kernel_rfl) (by kernel_rfl) (by kernel_rfl) (by kernel_rfl) (fun _ _ _ h => h) (by kernel_rfl) (by assumption) (by kernel_rfl) ?_ ?_
      rotate_left
      · (intro W1 hSw; (try dsimp only at hSw); go_simp; try with_reducible rfl)
      try simp only [Act.put, List.setIfInBounds_toArray, List.set_cons_zero, List.set_cons_succ]
      refine wpAnyW_takeL (i := 7) (v := ?_) (L := #[true, true, true, true, true, true, true, true, false, false, false, false, false, false, false, false, false, false, false, false, false, false, false, false, false, false, false, false, false, false, false, false, false, false, false, false, false, false, false, false, false]) (some 46) rfl (by kernel_rfl) (by kernel_rfl) (by kernel_rfl) (by kernel_rfl) (by kernel_rfl) (by kernel_rfl) (fun _ _ _ h => h) (by kernel_rfl) (by assumption) (by kernel_rfl) ?_ ?_
      rotate_left
      · (intro W1 hSw; (try dsimp only at hSw); go_simp; try with_reducible rfl)
      try simp only [Act.put, List.setIfInBounds_toArray, List.set_cons_zero, List.set_cons_succ]
      refine wpAnyW_takeL (i := 8) (v := ?_) (L := #[true, true, true, true, true, true, true, true, true, false, false, false, false, false, false, false, false, false, false, false, false, false, false, false, false, false, false, false, false, false, false, false, false, false, false, false, false, false, false, false, false]) (some 47) rfl (by kernel_rfl) (by kernel_rfl) (by kernel_rfl) (by kernel_rfl) (by kernel_rfl) (by kernel_rfl) (fun _ _ _ h => h) (by kernel_rfl) (by assumption) (by kernel_rfl) ?_ ?_
      rotate_left
      · (intro W1 hSw; (try dsimp only at hSw); go_simp; try with_reducible rfl)
      try simp only [Act.put, List.setIfInBounds_toArray, List.set_cons_zero, List.set_cons_succ]
      refine wpAnyW_takeL (i := 9) (v := ?_) (L := #[true, true, true, true, true, true, true, true, true, true, false, false, false, false, false, false, false, false, false, false, false, false, false, false, false, false, false, false, false, false, false, false, false, false, false, false, false, false, false, false, false]) (some 48) rfl (by kernel_rfl) (by kernel_rfl) (by kernel_rfl) (by kernel_rfl) (by kernel_rfl) (by kernel_rfl) (fun _ _ _ h => h) (by kernel_rfl) (by assumption) (by kernel_rfl) ?_ ?_
      rotate_left
      · (intro W1 hSw; (try dsimp only at hSw); go_simp; try with_reducible rfl)
      try simp only [Act.put, List.setIfInBounds_toArray, List.set_cons_zero, List.set_cons_succ]
      refine wpAnyW_takeL (i := 10) (v := ?_) (L := #[true, true, true, true, true, true, true, true, true, true, true, false, false, false, false, false, false, false, false, false, false, false, false, false, false, false, false, false, false, false, false, false, false, false, false, false, false, false, false, false, false]) (some 49) rfl (by kernel_rfl) (by kernel_rfl) (by kernel_rfl) (by kernel_rfl) (by kernel_rfl) (by kernel_rfl) (fun _ _ _ h => h) (by kernel_rfl) (by assumption) (by kernel_rfl) ?_ ?_
      rotate_left
      · (intro W1 hSw; (try dsimp only at hSw); go_simp; try with_reducible rfl)
      try simp only [Act.put, List.setIfInBounds_toArray, List.set_cons_zero, List.set_cons_succ]
      refine wpAnyW_one (i := 11) (L := #[true, true, true, true, true, true, true, true, true, true, true, true, false, false, false, false, false, false, false, false, false, false, false, false, false, false, false, false, false, false, false, false, false, false, false, false, false, false, false, false, false]) (by kernel_rfl) rfl rfl (by kernel_rfl) (by kernel_rfl) (fun K hK => ?_)
      go_simp
      refine (rformat_c _ (Fr.ii (to8 (by assumption)) ia) (by omega)).mono ?_
      rintro e w13 ⟨rfl, hw⟩
      unfold strOf
      replace Ob := Ob.below hw
      replace ib := ib.below hw
      replace Oc := Oc.below hw
      replace ic := ic.below hw
      replace Od := Od.below hw
      replace id := id.below hw
      replace HZ := Nat.le_trans HZ hw.size
      refine hK.out _ _ (keep8 (by assumption) hw) (fun hV13 => ?_)
      clear hK K
      try simp only [Act.put, List.setIfInBounds_toArray, List.set_cons_zero, List.set_cons_succ]
      clear hw
      refine wpAnyW_takeL (i := 12) (v := ?_) (L := #[true, true, true, true, true, true, true, true, true, true, true, true, true, false, false, false, false, false, false, false, false, false, false, false, false, false, false, false, false, false, false, false, false, false, false, false, false, false, false, false, false]) (some 51) rfl (by kernel_rfl) (by kernel_rfl) (by kernel_rfl) (by kernel_rfl) (by kernel_rfl) (by kernel_rfl) (fun _ _ _ h => h) (by kernel_rfl) (by assumption) (by kernel_rfl) ?_ ?_
      rotate_left
      · (intro W1 hSw; (try dsimp only at hSw); go_simp; try with_reducible rfl)
      try simp only [Act.put, List.setIfInBounds_toArray, List.set_cons_zero, List.set_cons_succ]
      refine wpAnyW_takeL (i := 13) (v := ?_) (L := #[true, true, true, true, true, true, true, true, true, true, true, true, true, true, false, false, false, false, false, false, false, false, false, false, false, false, false, false, false, false, false, false, false, false, false, false, false, false, false, false, false]) (some 52) rfl (by kernel_rfl) (by kernel_rfl) (by kernel_rfl) (by kernel_rfl) (by kernel_rfl) (by kernel_rfl) (fun _ _ _ h => h) (by kernel_rfl) (by assumption) (by kernel_rfl) ?_ ?_
      rotate_left
      · (intro W1 hSw; (try dsimp only at hSw); go_simp; try with_reducible rfl)
      try simp only [Act.put, List.setIfInBounds_toArray, List.set_cons_zero, List.set_cons_succ]
      refine wpAnyW_takeL (i := 14) (v := ?_) (L := #[true, true, true, true, true, true, true, true, true, true, true, true, true, true, true, false, false, false, false, false, false, false, false, false, false, false, false, false, false, false, false, false, false, false, false, false, false, false, false, false, false]) (some 53) rfl (by kernel_rfl) (by kernel_rfl) (by kernel_rfl) (by kernel_rfl) (by kernel_rfl) (by kernel_rfl) (fun _ _ _ h => h) (by kernel_rfl) (by assumption) (by kernel_rfl) ?_ ?_
      rotate_left
      · (intro W1 hSw; (try dsimp only at hSw); go_simp; try with_reducible rfl)
      try simp only [Act.put, List.setIfInBounds_toArray, List.set_cons_zero, List.set_cons_succ]
      refine wpAnyW_takeL (i := 15) (v := ?_) (L := #[true, true, true, true, true, true, true, true, true, true, true, true, true, true, true, true, false, false, false, false, false, false, false, false, false, false, false, false, false, false, false, false, false, false, false, false, false, false, false, false, false]) (some 54) rfl (by kernel_rfl) (by kernel_rfl) (by kernel_rfl) (by kernel_rfl) (by kernel_rfl) (by kernel_rfl) (fun _ _ _ h => h) (by kernel_rfl) (by assumption) (by kernel_rfl) ?_ ?_
      rotate_left
      · (intro W1 hSw; (try dsimp only at hSw); go_simp; try with_reducible rfl)
      try simp only [Act.put, List.setIfInBounds_toArray, List.set_cons_zero, List.set_cons_succ]
      refine wpAnyW_takeL (i := 16) (v := ?_) (L := #[true, true, true, true, true, true, true, true, true, true, true, true, true, true, true, true, true, false, false, false, false, false, false, false, false, false, false, false, false, false, false, false, false, false, false, false, false, false, false, false, false]) (some 55) rfl (by kernel_rfl) (by kernel_rfl) (by kernel_rfl) (by kernel_rfl) (by kernel_rfl) (by kernel_rfl) (fun _ _ _ h => h) (by kernel_rfl) (by assumption) (by kernel_rfl) ?_ ?_
      rotate_left
      · (intro W1 hSw; (try dsimp only at hSw); go_simp; try with_reducible rfl)
      try simp only [Act.put, List.setIfInBounds_toArray, List.set_cons_zero, List.set_cons_succ]
      refine wpAnyW_takeL (i := 17) (v := ?_) (L := #[true, true, true, true, true, true, true, true, true, true, true, true, true, true, true, true, true, true, false, false, false, false, false, false, false, false, false, false, false, false, false, false, false, false, false, false, false, false, false, false, false]) (some 56) rfl (by kernel_rfl) (by kernel_rfl) (by kernel_rfl) (by kernel_rfl) (by kernel_rfl) (by kernel_rfl) (fun _ _ _ h => h) (by kernel_rfl) (by assumption) (by kernel_rfl) ?_ ?_
      rotate_left
      · (intro W1 hSw; (try dsimp only at hSw); go_simp; try with_reducible rfl)
      try simp only [Act.put, List.setIfInBounds_toArray, List.set_cons_zero, List.set_cons_succ]
      refine wpAnyW_takeL (i := 18) (v := ?_) (L := #[true, true, true, true, true, true, true, true, true, true, true, true, true, true, true, true, true, true, true, false, false, false, false, false, false, false, false, false, false, false, false, false, false, false, false, false, false, false, false, false, false]) (some 57) rfl (by kernel_rfl) (by kernel_rfl) (by kernel_rfl) (by kernel_rfl) (by kernel_rfl) (by kernel_rfl) (fun _ _ _ h => h) (by kernel_rfl) (by assumption) (by kernel_rfl) ?_ ?_
      rotate_left
      · (intro W1 hSw; (try dsimp only at hSw); go_simp; try with_reducible rfl)
      try simp only [Act.put, List.setIfInBounds_toArray, List.set_cons_zero, List.set_cons_succ]
      refine wpAnyW_takeL (i := 19) (v := ?_) (L := #[true, true, true, true, true, true, true, true, true, true, true, true, true, true, true, true, true, true, true, true, false, false, false, false, false, false, false, false, false, false, false, false, false, false, false, false, false, false, false, false, false]) (some 58) rfl (by kernel_rfl) (by kernel_rfl) (by kernel_rfl) (by kernel_rfl) (by kernel_rfl) (by kernel_rfl) (fun _ _ _ h => h) (by kernel_rfl) (by assumption) (by kernel_rfl) ?_ ?_
      rotate_left
      · (intro W1 hSw; (try dsimp only at hSw); go_simp; try with_reducible rfl)
      try simp only [Act.put, List.setIfInBounds_toArray, List.set_cons_zero, List.set_cons_succ]
      refine wpAnyW_one (i := 20) (L := #[true, true, true, true, true, true, true, true, true, true, true, true, true, true, true, true, true, true, true, true, true, false, false, false, false, false, false, false, false, false, false, false, false, false, false, false, false, false, false, false, false]) (by kernel_rfl) rfl rfl (by kernel_rfl) (by kernel_rfl) (fun K hK => ?_)
      go_simp
      refine (rnew_v (K := 40) _ (Fr.ii (to8 (by assumption)) ia) (Nat.le_refl _) (by omega)).mono ?_
      rintro e w14 ⟨Ae, ne, ce, le, rfl, Ne, Oe, ie, hw⟩
      replace Oe := Oe.base (B' := w.heap.size + 1) HZ
      replace Ob := Ob.below hw
      replace ib := ib.below hw
      replace Oc := Oc.below hw
      replace ic := ic.below hw
      replace Od := Od.below hw
      replace id := id.below hw
      replace HZ := Nat.le_trans HZ hw.size
      refine hK.out _ _ (keep8 (by assumption) hw) (fun hV14 => ?_)
      clear hK K
      try simp only [Act.put, List.setIfInBounds_toArray, List.set_cons_zero, List.set_cons_succ]
      clear hw
      refine wpAnyW_one (i := 21) (L := #[true, true, true, true, true, true, true, true, true, true, true, true, true, true, true, true, true, true, true, true, true, true, false, false, false, false, false, false, false, false, false, false, false, false, false, false, false, false, false, false, false]) (by kernel_rfl) rfl rfl (by kernel_rfl) (by kernel_rfl) (fun K hK => ?_)
      go_simp
      refine (isame_v _ Nd Ne id ie).mono ?_
      rintro e w15 ⟨rfl, hw⟩
      replace Ob := Ob.below hw
      replace ib := ib.below hw
      replace Oc := Oc.below hw
      replace ic := ic.below hw
      replace Od := Od.below hw
      replace id := id.below hw
      replace Oe := Oe.below hw
      replace ie := ie.below hw
      replace HZ := Nat.le_trans HZ hw.size
      refine hK.out _ _ (keep8 (by assumption) hw) (fun hV15 => ?_)
      clear hK K
      try simp only [Act.put, List.setIfInBounds_toArray, List.set_cons_zero, List.set_cons_succ]
      clear hw
      refine wpAnyW_takeL (i := 22) (v := ?_) (L := #[true, true, true, true, true, true, true, true, true, true, true, true, true, true, true, true, true, true, true, true, true, true, true, false, false, false, false, false, false, false, false, false, false, false, false, false, false, false, false, false, false]) (some 61) rfl (by kernel_rfl) (by kernel_rfl) (by kernel_rfl) (by kernel_rfl) (by kernel_rfl) (by kernel_rfl) (fun _ _ _ h => h) (by kernel_rfl) (by assumption) (by kernel_rfl) ?_ ?_
      rotate_left
      · (intro W1 hSw; (try dsimp only at hSw); go_simp; try with_reducible rfl)
      try simp only [Act.put, List.setIfInBounds_toArray, List.set_cons_zero, List.set_cons_succ]
      refine wpAnyW_takeL (i := 23) (v := ?_) (L := #[true, true, true, true, true, true, true, true, true, true, true, true, true, true, true, true, true, true, true, true, true, true, true, true, false, false, false, false, false, false, false, false, false, false, false, false, false, false, false, false, false]) (some 62) rfl (by kernel_rfl) (by kernel_rfl) (by kernel_rfl) (by kernel_rfl) (by kernel_rfl) (by kernel_rfl) (fun _ _ _ h => h) (by kernel_rfl) (by assumption) (by kernel_rfl) ?_ ?_
      rotate_left
      · (intro W1 hSw; (try dsimp only at hSw); go_simp; try with_reducible rfl)
      try simp only [Act.put, List.setIfInBounds_toArray, List.set_cons_zero, List.set_cons_succ]
      refine wpAnyW_takeL (i := 24) (v := ?_) (L := #[true, true, true, true, true, true, true, true, true, true, true, true, true, true, true, true, true, true, true, true, true, true, true, true, true, false, false, false, false, false, false, false, false, false, false, false, false, false, false, false, false]) (some 63) rfl (by kernel_rfl) (by kernel_rfl) (by kernel_rfl) (by kernel_rfl) (by kernel_rfl) (by kernel_rfl) (fun _ _ _ h => h) (by kernel_rfl) (by assumption) (by kernel_rfl) ?_ ?_
      rotate_left
      · (intro W1 hSw; (try dsimp only at hSw); go_simp; try with_reducible rfl)
      try simp only [Act.put, List.setIfInBounds_toArray, List.set_cons_zero, List.set_cons_succ]
      refine wpAnyW_takeL (i := 25) (v := ?_) (L := #[true, true, true, true, true, true, true, true, true, true, true, true, true, true, true, true, true, true, true, true, true, true, true, true, true, true, false, false, false, false, false, false, false, false, false, false, false, false, false, false, false]) (some 64) rfl (by kernel_rfl) (by kernel_rfl) (by kernel_rfl) (by kernel_rfl) (by kernel_rfl) (by kernel_rfl) (fun _ _ _ h => h) (by kernel_rfl) (by assumption) (by kernel_rfl) ?_ ?_
      rotate_left
      · (intro W1 hSw; (try dsimp only at hSw); go_simp; try with_reducible rfl)
      try simp only [Act.put, List.setIfInBounds_toArray, List.set_cons_zero, List.set_cons_succ]
      refine wpAnyW_takeL (i := 26) (v := ?_) (L := #[true, true, true, true, true, true, true, true, true, true, true, true, true, true, true, true, true, true, true, true, true, true, true, true, true, true, true, false, false, false, false, false, false, false, false, false, false, false, false, false, false]) (some 65) rfl (by kernel_rfl) (by kernel_rfl) (by kernel_rfl) (by kernel_rfl) (by kernel_rfl) (by kernel_rfl) (fun _ _ _ h => h) (by kernel_rfl) (by assumption) (by kernel_rfl) ?_ ?_
      rotate_left
      · (intro W1 hSw; (try dsimp only at hSw); go_simp; try with_reducible rfl)
      try simp only [Act.put, List.setIfInBounds_toArray, List.set_cons_zero, List.set_cons_succ]
      refine wpAnyW_takeL (i := 27) (v := ?_) (L := #[true, true, true, true, true, true, true, true, true, true, true, true, true, true, true, true, true, true, true, true, true, true, true, true, true, true, true, true, false, false, false, false, false, false, false, false, false, false, false, false, false]) (some 66) rfl (by kernel_rfl) (by kernel_rfl) (by kernel_rfl) (by kernel_rfl) (by kernel_rfl) (by kernel_rfl) (fun _ _ _ h => h) (by kernel_rfl) (by assumption) (by kernel_rfl) ?_ ?_
      rotate_left
      · (intro W1 hSw; (try dsimp only at hSw); go_simp; try with_reducible rfl)
      try simp only [Act.put, List.setIfInBounds_toArray, List.set_cons_zero, List.set_cons_succ]
      refine wpAnyW_takeL (i := 28) (v := ?_) (L := #[true, true, true, true, true, true, true, true, true, true, true, true, true, true, true, true, true, true, true, true, true, true, true, true, true, true, true, true, true, false, false, false, false, false, false, false, false, false, false, false, false]) (some 67) rfl (by kernel_rfl) (by kernel_rfl) (by kernel_rfl) (by kernel_rfl) (by kernel_rfl) (by kernel_rfl) (fun _ _ _ h => h) (by kernel_rfl) (by assumption) (by kernel_rfl) ?_ ?_
      rotate_left
      · (intro W1 hSw; (try dsimp only at hSw); go_simp; try with_reducible rfl)
      try simp only [Act.put, List.setIfInBounds_toArray, List.set_cons_zero, List.set_cons_succ]
      refine wpAnyW_takeL (i := 29) (v := ?_) (L := #[true, true, true, true, true, true, true, true, true, true, true, true, true, true, true, true, true, true, true, true, true, true, true, true, true, true, true, true, true, true, false, false, false, false, false, false, false, false, false, false, false]) (some 68) rfl (by kernel_rfl) (by kernel_rfl) (by kernel_rfl) (by kernel_rfl) (by kernel_rfl) (by kernel_rfl) (fun _ _ _ h => h) (by kernel_rfl) (by assumption) (by kernel_rfl) ?_ ?_
      rotate_left
      · (intro W1 hSw; (try dsimp only at hSw); go_simp; try with_reducible rfl)
      try simp only [Act.put, List.setIfInBounds_toArray, List.set_cons_zero, List.set_cons_succ]
      refine wpAnyW_takeL (i := 30) (v := ?_) (L := #[true, true, true, true, true, true, true, true, true, true, true, true, true, true, true, true, true, true, true, true, true, true, true, true, true, true, true, true, true, true, true, false, false, false, false, false, false, false, false, false, false]) (some 69) rfl (by kernel_rfl) (by kernel_rfl) (by kernel_rfl) (by kernel_rfl) (by kernel_rfl) (by kernel_rfl) (fun _ _ _ h => h) (by kernel_rfl) (by assumption) (by kernel_rfl) ?_ ?_
      rotate_left
      · (intro W1 hSw; (try dsimp only at hSw); go_simp; try with_reducible rfl)
      try simp only [Act.put, List.setIfInBounds_toArray, List.set_cons_zero, List.set_cons_succ]
      refine wpAnyW_takeN (i := 31) (L := #[true, true, true, true, true, true, true, true, true, true, true, true, true, true, true, true, true, true, true, true, true, true, true, true, true, true, true, true, true, true, true, true, false, false, false, false, false, false, false, false, false]) (some 70) rfl (by kernel_rfl) (by kernel_rfl) (by kernel_rfl) (by kernel_rfl) (by kernel_rfl) (by kernel_rfl) (fun _ _ _ h => h) (by kernel_rfl) (by assumption) (by kernel_rfl) ?_
      try simp only [Act.put, List.setIfInBounds_toArray, List.set_cons_zero, List.set_cons_succ]
      refine wpAnyW_takeN (i := 33) (L := #[true, true, true, true, true, true, true, true, true, true, true, true, true, true, true, true, true, true, true, true, true, true, true, true, true, true, true, true, true, true, true, true, false, true, false, false, false, false, false, false, false]) (some 72) rfl (by kernel_rfl) (by kernel_rfl) (by kernel_rfl) (by kernel_rfl) (by kernel_rfl) (by kernel_rfl) (fun _ _ _ h => h) (by kernel_rfl) (by assumption) (by kernel_rfl) ?_
      try simp only [Act.put, List.setIfInBounds_toArray, List.set_cons_zero, List.set_cons_succ]
      refine wpAnyW_takeN (i := 32) (L := #[true, true, true, true, true, true, true, true, true, true, true, true, true, true, true, true, true, true, true, true, true, true, true, true, true, true, true, true, true, true, true, true, true, true, false, false, false, false, false, false, false]) (some 71) rfl (by kernel_rfl) (by kernel_rfl) (by kernel_rfl) (by kernel_rfl) (by kernel_rfl) (by kernel_rfl) (fun _ _ _ h => h) (by kernel_rfl) (by assumption) (by kernel_rfl) ?_
      try simp only [Act.put, List.setIfInBounds_toArray, List.set_cons_zero, List.set_cons_succ]
      refine wpAnyW_takeN (i := 34) (L := #[true, true, true, true, true, true, true, true, true, true, true, true, true, true, true, true, true, true, true, true, true, true, true, true, true, true, true, true, true, true, true, true, true, true, true, false, false, false, false, false, false]) (some 73) rfl (by kernel_rfl) (by kernel_rfl) (by kernel_rfl) (by kernel_rfl) (by kernel_rfl) (by kernel_rfl) (fun _ _ _ h => h) (by kernel_rfl) (by assumption) (by kernel_rfl) ?_
      try simp only [Act.put, List.setIfInBounds_toArray, List.set_cons_zero, List.set_cons_succ]
      refine wpAnyW_takeL (i := 35) (v := ?_) (L := #[true, true, true, true, true, true, true, true, true, true, true, true, true, true, true, true, true, true, true, true, true, true, true, true, true, true, true, true, true, true, true, true, true, true, true, true, false, false, false, false, false]) (some 74) rfl (by kernel_rfl) (by kernel_rfl) (by kernel_rfl) (by kernel_rfl) (by kernel_rfl) (by kernel_rfl) (fun _ _ _ h => h) (by kernel_rfl) (by assumption) (by kernel_rfl) ?_ ?_
      rotate_left
      · (intro W1 hSw; (try dsimp only at hSw); go_simp; try with_reducible rfl)
      try simp only [Act.put, List.setIfInBounds_toArray, List.set_cons_zero, List.set_cons_succ]
      refine wpAnyW_takeL (i := 36) (v := ?_) (L := #[true, true, true, true, true, true, true, true, true, true, true, true, true, true, true, true, true, true, true, true, true, true, true, true, true, true, true, true, true, true, true, true, true, true, true, true, true, false, false, false, false]) (some 75) rfl (by kernel_rfl) (by kernel_rfl) (by kernel_rfl) (by kernel_rfl) (by kernel_rfl) (by kernel_rfl) (fun _ _ _ h => h) (by kernel_rfl) (by assumption) (by kernel_rfl) ?_ ?_
      rotate_left
      · (intro W1 hSw; (try dsimp only at hSw); go_simp; try with_reducible rfl)
      try simp only [Act.put, List.setIfInBounds_toArray, List.set_cons_zero, List.set_cons_succ]
      refine wpAnyW_takeL (i := 37) (v := ?_) (L := #[true, true, true, true, true, true, true, true, true, true, true, true, true, true, true, true, true, true, true, true, true, true, true, true, true, true, true, true, true, true, true, true, true, true, true, true, true, true, false, false, false]) (some 76) rfl (by kernel_rfl) (by kernel_rfl) (by kernel_rfl) (by kernel_rfl) (by kernel_rfl) (by kernel_rfl) (fun _ _ _ h => h) (by kernel_rfl) (by assumption) (by kernel_rfl) ?_ ?_
      rotate_left
      · (intro W1 hSw; (try dsimp only at hSw); go_simp; try with_reducible rfl)
      try simp only [Act.put, List.setIfInBounds_toArray, List.set_cons_zero, List.set_cons_succ]
      refine wpAnyW_one (i := 38) (L := #[true, true, true, true, true, true, true, true, true, true, true, true, true, true, true, true, true, true, true, true, true, true, true, true, true, true, true, true, true, true, true, true, true, true, true, true, true, true, true, false, false]) (by kernel_rfl) rfl rfl (by kernel_rfl) (by kernel_rfl) (fun K hK => ?_)
      go_simp
      refine (iexample_c _).mono ?_
      rintro e w16 ⟨rfl, hw⟩
      replace Ob := Ob.below hw
      replace ib := ib.below hw
      replace Oc := Oc.below hw
      replace ic := ic.below hw
      replace Od := Od.below hw
      replace id := id.below hw
      replace Oe := Oe.below hw
      replace ie := ie.below hw
      replace HZ := Nat.le_trans HZ hw.size
      refine hK.out _ _ (keep8 (by assumption) hw) (fun hV16 => ?_)
      clear hK K
      try simp only [Act.put, List.setIfInBounds_toArray, List.set_cons_zero, List.set_cons_succ]
      clear hw
      refine wpAnyW_takeL (i := 39) (v := ?_) (L := #[true, true, true, true, true, true, true, true, true, true, true, true, true, true, true, true, true, true, true, true, true, true, true, true, true, true, true, true, true, true, true, true, true, true, true, true, true, true, true, true, false]) (some 78) rfl (by kernel_rfl) (by kernel_rfl) (by kernel_rfl) (by kernel_rfl) (by kernel_rfl) (by kernel_rfl) (fun _ _ _ h => h) (by kernel_rfl) (by assumption) (by kernel_rfl) ?_ ?_
      rotate_left
      · (intro W1 hSw; (try dsimp only at hSw); go_simp; try with_reducible rfl)
      try simp only [Act.put, List.setIfInBounds_toArray, List.set_cons_zero, List.set_cons_succ]
      refine wpAnyW_takeL (i := 40) (v := ?_) (L := #[true, true, true, true, true, true, true, true, true, true, true, true, true, true, true, true, true, true, true, true, true, true, true, true, true, true, true, true, true, true, true, true, true, true, true, true, true, true, true, true, true]) (some 4) rfl (by kernel_rfl) (by kernel_rfl) (by kernel_rfl) (by kernel_rfl) (by kernel_rfl) (by kernel_rfl) (fun _ _ _ h => h) (by kernel_rfl) (by assumption) (by kernel_rfl) ?_ ?_
      rotate_left
      · (intro W1 hSw; (try dsimp only at hSw); go_simp; try with_reducible rfl)
      try simp only [Act.put, List.setIfInBounds_toArray, List.set_cons_zero, List.set_cons_succ]
      refine wpAnyW_done (by kernel_rfl) ?_ _
      refine NoPanic.normal ?_
      have FR := hide (to8 (by assumption))
      go_wp2_with fail
      go_ret
      exact ⟨rfl, (unhide FR).bel⟩
  · have hcase : ¬ na ≤ 40 ∨ (na ≤ 40 ∧ ¬ s.size ≤ 1200) := by omega
    rcases hcase with h1 | ⟨h1, h2⟩
    · have HF : Hid (allFew 40 [(sa, Aa, na, ca)] = false) := by show _ = _; simp [allFew]; omega
      clear h1 hsm
      go_enter Try.func9, Try.ntmps9
      go_upto_region 1 with fail
      obtain ⟨w0, hw0⟩ : ∃ w0, w0 = (w.alloc (.cells #[.bool sa, .slice Aa na ca] 24)) := ⟨_, rfl⟩
      have kw00 : Blk w0 (w.heap.size) 24 #[.bool sa, .slice Aa na ca] := by rw [hw0]; exact allocs_blk [(#[.bool sa, .slice Aa na ca], 24)] w 0 _ _ rfl
      have FR : Fr w [] w0 := (⟨by rw [hw0]; exact allocs_below [(#[.bool sa, .slice Aa na ca], 24)] w, fun _ h => by cases h⟩ : Fr w [] w0)
      have sw0 : w0.heap.size = w.heap.size + 1 := by rw [hw0]; exact allocs_size [(#[.bool sa, .slice Aa na ca], 24)] w
      rw [← hw0]
      clear hw0
      have c0_0 := kw00.cell 0
      have c0_1 := kw00.cell 1
      replace FR := hide FR
      have HZ : w.heap.size + 1 ≤ w0.heap.size := by omega
      clear sw0 kw00
      have kF := Blk.new w0 24 #[.bool sa, .slice Aa na ca]
      have hw := below_new w0 (.cells #[.bool sa, .slice Aa na ca] 24)
      have old_c0_0 := c0_0
      have old_c0_1 := c0_1
      replace c0_0 := keepc hw c0_0
      replace c0_1 := keepc hw c0_1
      replace FR := hide ((unhide FR).below hw)
      replace HZ := Nat.le_trans HZ hw.size
      clear hw
      go_wp2_with fail
      clear old_c0_0 old_c0_1
      obtain ⟨w2, hn⟩ : ∃ w2, w2 = w0.alloc (.cells #[.bool sa, .slice Aa na ca] 24) := ⟨_, rfl⟩
      rw [← hn] at c0_0 c0_1 FR HZ kF
      rw [← hn]
      clear hn
      refine (ifew_c (L := [(sa, Aa, na, ca)]) (k := 1) (most := 40) _ (rowi1 kF (by omega)) rfl (by omega) (by omega)).mono ?_
      rintro e w3 ⟨rfl, hw⟩
      replace c0_0 := keepc hw c0_0
      replace c0_1 := keepc hw c0_1
      replace FR := hide ((unhide FR).below hw)
      replace HZ := Nat.le_trans HZ hw.size
      clear hw kF
      rw [unhide HF]
      go_wp2_with fail
      refine (iexample_c _).mono ?_
      rintro e w4 ⟨rfl, hw⟩
      replace c0_0 := keepc hw c0_0
      replace c0_1 := keepc hw c0_1
      replace FR := hide ((unhide FR).below hw)
      replace HZ := Nat.le_trans HZ hw.size
      clear hw
      go_wp2_with fail
      go_ret
      exact ⟨rfl, (unhide FR).bel⟩
    · have HF : Hid (allFew 40 [(sa, Aa, na, ca)] = true) := by show _ = _; simp [allFew]; omega
      have t0 : (1200 : Int) < (s.size : Int) := by omega
      clear h1 h2 hsm
      go_enter Try.func9, Try.ntmps9
      go_upto_region 1 with fail
      obtain ⟨w0, hw0⟩ : ∃ w0, w0 = (w.alloc (.cells #[.bool sa, .slice Aa na ca] 24)) := ⟨_, rfl⟩
      have kw00 : Blk w0 (w.heap.size) 24 #[.bool sa, .slice Aa na ca] := by rw [hw0]; exact allocs_blk [(#[.bool sa, .slice Aa na ca], 24)] w 0 _ _ rfl
      have FR : Fr w [] w0 := (⟨by rw [hw0]; exact allocs_below [(#[.bool sa, .slice Aa na ca], 24)] w, fun _ h => by cases h⟩ : Fr w [] w0)
      have sw0 : w0.heap.size = w.heap.size + 1 := by rw [hw0]; exact allocs_size [(#[.bool sa, .slice Aa na ca], 24)] w
      rw [← hw0]
      clear hw0
      have c0_0 := kw00.cell 0
      have c0_1 := kw00.cell 1
      replace FR := hide FR
      have HZ : w.heap.size + 1 ≤ w0.heap.size := by omega
      clear sw0 kw00
      have kF := Blk.new w0 24 #[.bool sa, .slice Aa na ca]
      have hw := below_new w0 (.cells #[.bool sa, .slice Aa na ca] 24)
      have old_c0_0 := c0_0
      have old_c0_1 := c0_1
      replace c0_0 := keepc hw c0_0
      replace c0_1 := keepc hw c0_1
      replace FR := hide ((unhide FR).below hw)
      replace HZ := Nat.le_trans HZ hw.size
      clear hw
      go_wp2_with fail
      clear old_c0_0 old_c0_1
      obtain ⟨w2, hn⟩ : ∃ w2, w2 = w0.alloc (.cells #[.bool sa, .slice Aa na ca] 24) := ⟨_, rfl⟩
      rw [← hn] at c0_0 c0_1 FR HZ kF
      rw [← hn]
      clear hn
      refine (ifew_c (L := [(sa, Aa, na, ca)]) (k := 1) (most := 40) _ (rowi1 kF (by omega)) rfl (by omega) (by omega)).mono ?_
      rintro e w3 ⟨rfl, hw⟩
      replace c0_0 := keepc hw c0_0
      replace c0_1 := keepc hw c0_1
      replace FR := hide ((unhide FR).below hw)
      replace HZ := Nat.le_trans HZ hw.size
      clear hw kF
      rw [unhide HF]
      go_wp2_with fail
      refine (iexample_c _).mono ?_
      rintro e w4 ⟨rfl, hw⟩
      replace c0_0 := keepc hw c0_0
      replace c0_1 := keepc hw c0_1
      replace FR := hide ((unhide FR).below hw)
      replace HZ := Nat.le_trans HZ hw.size
      clear hw
      go_wp2_with fail
      go_ret
      exact ⟨rfl, (unhide FR).bel⟩

end Go.Proofs.Ytjdcolaefhheaaa
