/-
  Walks: the law of division of integers.
-/
import Derived.Test.YtjdcolaefhheaaaHeldY
namespace Go.Proofs.Ytjdcolaefhheaaa
set_option linter.unusedVariables false
set_option linter.unusedSimpArgs false
open Go.RowKit
attribute [local go_sem ↓] Go.wp_at_zero Go.wp_at_succ

set_option maxRecDepth 100000 in
set_option maxHeartbeats 8000000 in
theorem klawDivision {Aa Ab : Option Addr} {na ca nb cb : Nat} {la lb : List Nat} {sa sb : Bool} (w : World) (ja : In w Aa na ca la) (jb : In w Ab nb cb lb) :
    Calls Try.prog 8 #[.agg #[.bool sa, .slice Aa na ca], .agg #[.bool sb, .slice Ab nb cb]] w (RetV w (.bool true)) := by
  have hna := ja.lenI
  have hnb := jb.lenI
  by_cases hsm : na ≤ 40 ∧ nb ≤ 40
  · obtain ⟨h40, h41⟩ := hsm
    have ia : II w sa Aa na ca la (zi sa (val la)) 40 := ⟨ja, rfl, h40⟩
    obtain ⟨xa, hxa⟩ : ∃ xa, xa = zi sa (val la) := ⟨_, rfl⟩
    rw [← hxa] at ia
    have ib : II w sb Ab nb cb lb (zi sb (val lb)) 40 := ⟨jb, rfl, h41⟩
    obtain ⟨xb, hxb⟩ : ∃ xb, xb = zi sb (val lb) := ⟨_, rfl⟩
    rw [← hxb] at ib
    clear hxa hxb
    have hfew : allFew 40 [(sa, Aa, na, ca), (sb, Ab, nb, cb)] = true := by simp [allFew]; omega
    have HF := hide hfew
    clear hfew
    go_enter Try.func8, Try.ntmps8
    go_upto_region 1 with fail
    obtain ⟨w0, hw0⟩ : ∃ w0, w0 = ((w.alloc (.cells #[.bool sa, .slice Aa na ca] 24)).alloc (.cells #[.bool sb, .slice Ab nb cb] 24)) := ⟨_, rfl⟩
    have kw00 : Blk w0 (w.heap.size) 24 #[.bool sa, .slice Aa na ca] := by rw [hw0]; exact allocs_blk [(#[.bool sa, .slice Aa na ca], 24), (#[.bool sb, .slice Ab nb cb], 24)] w 0 _ _ rfl
    have kw01 : Blk w0 (w.heap.size + 1) 24 #[.bool sb, .slice Ab nb cb] := by rw [hw0]; exact allocs_blk [(#[.bool sa, .slice Aa na ca], 24), (#[.bool sb, .slice Ab nb cb], 24)] w 1 _ _ rfl
    have FR : Fr w [] w0 := (⟨by rw [hw0]; exact allocs_below [(#[.bool sa, .slice Aa na ca], 24), (#[.bool sb, .slice Ab nb cb], 24)] w, fun _ h => by cases h⟩ : Fr w [] w0)
    have sw0 : w0.heap.size = w.heap.size + 2 := by rw [hw0]; exact allocs_size [(#[.bool sa, .slice Aa na ca], 24), (#[.bool sb, .slice Ab nb cb], 24)] w
    rw [← hw0]
    clear hw0
    have c0_0 := kw00.cell 0
    have c0_1 := kw00.cell 1
    have c1_0 := kw01.cell 0
    have c1_1 := kw01.cell 1
    replace FR := hide FR
    have HZ : w.heap.size + 2 ≤ w0.heap.size := by omega
    clear sw0 kw00 kw01
    have kF := Blk.new w0 24 #[.bool sa, .slice Aa na ca, .bool sb, .slice Ab nb cb]
    have hw := below_new w0 (.cells #[.bool sa, .slice Aa na ca, .bool sb, .slice Ab nb cb] 24)
    have old_c0_0 := c0_0
    have old_c0_1 := c0_1
    have old_c1_0 := c1_0
    have old_c1_1 := c1_1
    replace c0_0 := keepc hw c0_0
    replace c0_1 := keepc hw c0_1
    replace c1_0 := keepc hw c1_0
    replace c1_1 := keepc hw c1_1
    replace FR := hide ((unhide FR).below hw)
    replace HZ := Nat.le_trans HZ hw.size
    clear hw
    go_wp2_with fail
    clear old_c0_0 old_c0_1 old_c1_0 old_c1_1
    obtain ⟨w2, hn⟩ : ∃ w2, w2 = w0.alloc (.cells #[.bool sa, .slice Aa na ca, .bool sb, .slice Ab nb cb] 24) := ⟨_, rfl⟩
    rw [← hn] at c0_0 c0_1 c1_0 c1_1 FR HZ kF
    rw [← hn]
    clear hn
    refine (ifew_c (L := [(sa, Aa, na, ca), (sb, Ab, nb, cb)]) (k := 2) (most := 40) _ (rowi2 kF (by omega) (by omega)) rfl (by omega) (by omega)).mono ?_
    rintro e w3 ⟨rfl, hw⟩
    replace c0_0 := keepc hw c0_0
    replace c0_1 := keepc hw c0_1
    replace c1_0 := keepc hw c1_0
    replace c1_1 := keepc hw c1_1
    replace FR := hide ((unhide FR).below hw)
    replace HZ := Nat.le_trans HZ hw.size
    clear hw kF
    rw [unhide HF]
    go_upto_region 3 with fail
    go_cut [5, 6] (fun a5 a6 wx => ∃ (G1 : Nat) (G2 : Nat) (Ax : Addr) (cx : Nat) (Ay : Addr) (cy : Nat), a5 = .pointer (some ⟨G1, 0, none⟩) ∧ a6 = .pointer (some ⟨G2, 0, none⟩) ∧ Below w3.heap.size w3 wx ∧ w.heap.size + 2 ≤ G1 ∧ wx.cell? ⟨G1, 0, none⟩ = some (.bool sa) ∧ wx.cell? ⟨G1, 1, none⟩ = some (.slice (some Ax) na cx) ∧ w.heap.size + 2 ≤ G2 ∧ wx.cell? ⟨G2, 0, none⟩ = some (.bool sb) ∧ wx.cell? ⟨G2, 1, none⟩ = some (.slice (some Ay) nb cy) ∧ OwnV wx (w.heap.size + 2) Ax na cx la ∧ OwnV wx (w.heap.size + 2) Ay nb cy lb)
    case first =>
      have BB := Below.refl w3.heap.size w3
      have hS := And.intro c0_0 (And.intro c0_1 (And.intro c1_0 (And.intro c1_1 (FR))))
      clear c0_0 c0_1 c1_0 c1_1 FR
      refine wp_region_noPanic ?_
      refine wp_region_WL (S := fun w' => w'.cell? ⟨w.heap.size, 0, none⟩ = some (.bool sa) ∧ w'.cell? ⟨w.heap.size, 1, none⟩ = some (.slice Aa na ca) ∧ w'.cell? ⟨w.heap.size + 1, 0, none⟩ = some (.bool sb) ∧ w'.cell? ⟨w.heap.size + 1, 1, none⟩ = some (.slice Ab nb cb) ∧ Hid (Fr w [] w')) (T := fun i => i == 6 || i == 7) 8 #[false, false, false, false, false, false, false, false] rfl rfl (by kernel_rfl) (drew4 hS) (fun hV0 => ?_)
      clear hS
      replace BB := below_drew BB
      replace HZ : w.heap.size + 2 ≤ w3.drew.heap.size := HZ
      obtain ⟨w4, hn⟩ : ∃ w4, w4 = w3.drew := ⟨_, rfl⟩
      rw [← hn] at hV0 HZ BB
      rw [← hn]
      clear hn
      refine wpAnyW_takeL (i := 0) (v := ?_) (L := #[true, false, false, false, false, false, false, false]) (some 23) rfl (by kernel_rfl) (by kernel_rfl) (by kernel_rfl) (by kernel_rfl) (by kernel_rfl) (by kernel_rfl) (fun _ _ _ h => h) (by kernel_rfl) (by assumption) (by kernel_rfl) ?_ ?_
      rotate_left
      · (intro W1 hSw; (try dsimp only at hSw); go_simp; try with_reducible rfl)
      try simp only [Act.put, List.setIfInBounds_toArray, List.set_cons_zero, List.set_cons_succ]
      refine wpAnyW_takeL (i := 2) (v := ?_) (L := #[true, false, true, false, false, false, false, false]) (some 25) rfl (by kernel_rfl) (by kernel_rfl) (by kernel_rfl) (by kernel_rfl) (by kernel_rfl) (by kernel_rfl) (fun _ _ _ h => h) (by kernel_rfl) (by assumption) (by kernel_rfl) ?_ ?_
      rotate_left
      · (intro W1 hSw; (try dsimp only at hSw); go_simp; try with_reducible rfl)
      try simp only [Act.put, List.setIfInBounds_toArray, List.set_cons_zero, List.set_cons_succ]
      refine wpAnyW_ready (rs := [1, 4, 5]) (by kernel_rfl) (by simp) ?_
      refine AllReadyW.consL (i := 1) (L := #[true, true, true, false, false, false, false, false]) rfl rfl (by kernel_rfl) (by kernel_rfl) (fun K hK => ?_) ?_
      · go_simp
        refine (iown_c _ ((to4 (by assumption)).in_ ja) (by omega)).mono ?_
        rintro e w5 ⟨Ax, cx, rfl, hr, ho, hl, hw⟩
        have Vx : OwnV w5 _ Ax na cx la := ⟨hr, ho, hl⟩
        clear hr ho hl
        replace Vx := Vx.base (B' := w.heap.size + 2) HZ
        refine hK.out _ _ (keep4 (by assumption) hw) (fun hV5 => ?_)
        clear hK K
        try simp only [Act.put, List.setIfInBounds_toArray, List.set_cons_zero, List.set_cons_succ]
        replace HZ := Nat.le_trans HZ hw.size
        replace BB := below_step BB hw
        clear hw
        refine wpAnyW_ready (rs := [3, 4, 5]) (by kernel_rfl) (by simp) ?_
        refine AllReadyW.consL (i := 3) (L := #[true, true, true, true, false, false, false, false]) rfl rfl (by kernel_rfl) (by kernel_rfl) (fun K hK => ?_) ?_
        · go_simp
          refine (iown_c _ ((to4 (by assumption)).in_ jb) (by omega)).mono ?_
          rintro e w6 ⟨Ay, cy, rfl, hr, ho, hl, hw⟩
          have Vy : OwnV w6 _ Ay nb cy lb := ⟨hr, ho, hl⟩
          clear hr ho hl
          replace Vy := Vy.base (B' := w.heap.size + 2) HZ
          refine hK.out _ _ (keep4 (by assumption) hw) (fun hV6 => ?_)
          clear hK K
          try simp only [Act.put, List.setIfInBounds_toArray, List.set_cons_zero, List.set_cons_succ]
          replace Vx := Vx.below hw
          replace HZ := Nat.le_trans HZ hw.size
          replace BB := below_step BB hw
          clear hw
          refine wpAnyW_ready (rs := [4, 5]) (by kernel_rfl) (by simp) ?_
          refine AllReadyW.consL (i := 4) (L := #[true, true, true, true, true, false, false, false]) rfl rfl (by kernel_rfl) (by kernel_rfl) (fun K hK => ?_) ?_
          · go_simp
            have hw := below_new w6 (.cells #[.bool false, .slice none 0 0] 24)
            have hV6a := keep4 (by assumption) hw
            refine hK.out _ _ hV6a (fun _ => ?_)
            clear hK K
            try simp only [Act.put, List.setIfInBounds_toArray, List.set_cons_zero, List.set_cons_succ]
            obtain ⟨G1, hg⟩ : ∃ G1, G1 = w6.heap.size := ⟨_, rfl⟩
            have BG1 := Bw.of_blk (Blk.new w6 24 #[.bool false, .slice none 0 0]) rfl
            have ZG1 := HZ
            have qG1 := BB.size
            have TG1 : w6.heap.size < (w6.alloc (.cells #[.bool false, .slice none 0 0] 24)).heap.size := by simp
            try dsimp only [List.size_toArray, List.length_cons, List.length_nil] at BG1
            have yxG1 := Vx.own.away_new (Nat.le_refl _)
            have yyG1 := Vy.own.away_new (Nat.le_refl _)
            replace Vx := Vx.below hw
            replace Vy := Vy.below hw
            replace HZ := Nat.le_trans HZ hw.size
            replace BB := below_step BB hw
            rw [← hg] at BG1 ZG1 TG1 qG1 yxG1 yyG1
            rw [← hg]
            clear hg hw
            obtain ⟨w7, hn⟩ : ∃ w7, w7 = w6.alloc (.cells #[.bool false, .slice none 0 0] 24) := ⟨_, rfl⟩
            rw [← hn] at hV6a HZ BB Vx Vy BG1 TG1
            rw [← hn]
            clear hn
            refine wpAnyW_ready (rs := [5]) (by kernel_rfl) (by simp) ?_
            refine AllReadyW.consL (i := 5) (L := #[true, true, true, true, true, true, false, false]) rfl rfl (by kernel_rfl) (by kernel_rfl) (fun K hK => ?_) ?_
            · go_simp
              have hw := below_new w7 (.cells #[.bool false, .slice none 0 0] 24)
              have hV7a := keep4 (by assumption) hw
              refine hK.out _ _ hV7a (fun _ => ?_)
              clear hK K
              try simp only [Act.put, List.setIfInBounds_toArray, List.set_cons_zero, List.set_cons_succ]
              obtain ⟨G2, hg⟩ : ∃ G2, G2 = w7.heap.size := ⟨_, rfl⟩
              have BG2 := Bw.of_blk (Blk.new w7 24 #[.bool false, .slice none 0 0]) rfl
              have ZG2 := HZ
              have qG2 := BB.size
              have TG2 : w7.heap.size < (w7.alloc (.cells #[.bool false, .slice none 0 0] 24)).heap.size := by simp
              try dsimp only [List.size_toArray, List.length_cons, List.length_nil] at BG2
              have yxG2 := Vx.own.away_new (Nat.le_refl _)
              have yyG2 := Vy.own.away_new (Nat.le_refl _)
              have eG1G2 : G1 ≠ w7.heap.size := Nat.ne_of_lt TG1
              have eG2G1 := eG1G2.symm
              replace Vx := Vx.below hw
              replace Vy := Vy.below hw
              replace BG1 := BG1.below hw
              replace TG1 := Nat.lt_of_lt_of_le TG1 hw.size
              replace HZ := Nat.le_trans HZ hw.size
              replace BB := below_step BB hw
              rw [← hg] at BG2 ZG2 TG2 qG2 yxG2 yyG2 eG1G2 eG2G1
              rw [← hg]
              clear hg hw
              obtain ⟨w8, hn⟩ : ∃ w8, w8 = w7.alloc (.cells #[.bool false, .slice none 0 0] 24) := ⟨_, rfl⟩
              rw [← hn] at hV7a HZ BB Vx Vy BG1 TG1 BG2 TG2
              rw [← hn]
              clear hn
              obtain ⟨⟨_, k0, f0⟩, ⟨_, k1, f1⟩⟩ := BG1.two
              refine wpAnyW_oneT (i := 6) (L := #[true, true, true, true, true, true, true, false]) (by kernel_rfl) rfl rfl (by kernel_rfl) (by kernel_rfl) (fun K hK => ?_)
              go_simp
              refine hK.out _ _ ?_
              clear hK K
              try simp only [Act.put, List.setIfInBounds_toArray, List.set_cons_zero, List.set_cons_succ]
              have hp := Put.set2 w8 G1 (.bool sa) (.slice (some Ax) na cx)
              obtain ⟨cG1_0, cG1_1⟩ := put2_cells BG1 (.bool sa) (.slice (some Ax) na cx)
              clear k0 f0 k1 f1
              obtain ⟨w9, hn⟩ : ∃ w9, w9 = ((w8.setCell ⟨G1, 0, none⟩ (.bool sa)).setCell ⟨G1, 1, none⟩ (.slice (some Ax) na cx)) := ⟨_, rfl⟩
              rw [← hn] at hp cG1_0 cG1_1
              rw [← hn]
              clear hn
              replace BG2 := BG2.put hp eG2G1
              replace Vx := Vx.put hp yxG1
              replace Vy := Vy.put hp yyG1
              replace BB := hp.bel _ _ qG1 BB
              clear hp
              obtain ⟨⟨_, k0, f0⟩, ⟨_, k1, f1⟩⟩ := BG2.two
              refine wpAnyW_oneT (i := 7) (L := #[true, true, true, true, true, true, true, true]) (by kernel_rfl) rfl rfl (by kernel_rfl) (by kernel_rfl) (fun K hK => ?_)
              go_simp
              refine hK.out _ _ ?_
              clear hK K
              try simp only [Act.put, List.setIfInBounds_toArray, List.set_cons_zero, List.set_cons_succ]
              have hp := Put.set2 w9 G2 (.bool sb) (.slice (some Ay) nb cy)
              obtain ⟨cG2_0, cG2_1⟩ := put2_cells BG2 (.bool sb) (.slice (some Ay) nb cy)
              clear k0 f0 k1 f1
              obtain ⟨w10, hn⟩ : ∃ w10, w10 = ((w9.setCell ⟨G2, 0, none⟩ (.bool sb)).setCell ⟨G2, 1, none⟩ (.slice (some Ay) nb cy)) := ⟨_, rfl⟩
              rw [← hn] at hp cG2_0 cG2_1
              rw [← hn]
              clear hn
              replace cG1_0 := (hp.cell eG1G2).trans cG1_0
              replace cG1_1 := (hp.cell eG1G2).trans cG1_1
              replace Vx := Vx.put hp yxG2
              replace Vy := Vy.put hp yyG2
              replace BB := hp.bel _ _ qG2 BB
              clear hp
              refine wpAnyW_done (by kernel_rfl) ?_ _
              refine NoPanic.normal ?_
              go_wp2_with fail
              go_meet
              exact ⟨G1, G2, Ax, cx, Ay, cy, rfl, rfl, BB, ZG1, cG1_0, cG1_1, ZG2, cG2_0, cG2_1, Vx, Vy⟩
            exact AllReadyW.nil
          refine AllReadyW.consL (i := 5) (L := #[true, true, true, true, false, true, false, false]) rfl rfl (by kernel_rfl) (by kernel_rfl) (fun K hK => ?_) ?_
          · go_simp
            have hw := below_new w6 (.cells #[.bool false, .slice none 0 0] 24)
            have hV6a := keep4 (by assumption) hw
            refine hK.out _ _ hV6a (fun _ => ?_)
            clear hK K
            try simp only [Act.put, List.setIfInBounds_toArray, List.set_cons_zero, List.set_cons_succ]
            obtain ⟨G2, hg⟩ : ∃ G2, G2 = w6.heap.size := ⟨_, rfl⟩
            have BG2 := Bw.of_blk (Blk.new w6 24 #[.bool false, .slice none 0 0]) rfl
            have ZG2 := HZ
            have qG2 := BB.size
            have TG2 : w6.heap.size < (w6.alloc (.cells #[.bool false, .slice none 0 0] 24)).heap.size := by simp
            try dsimp only [List.size_toArray, List.length_cons, List.length_nil] at BG2
            have yxG2 := Vx.own.away_new (Nat.le_refl _)
            have yyG2 := Vy.own.away_new (Nat.le_refl _)
            replace Vx := Vx.below hw
            replace Vy := Vy.below hw
            replace HZ := Nat.le_trans HZ hw.size
            replace BB := below_step BB hw
            rw [← hg] at BG2 ZG2 TG2 qG2 yxG2 yyG2
            rw [← hg]
            clear hg hw
            obtain ⟨w7, hn⟩ : ∃ w7, w7 = w6.alloc (.cells #[.bool false, .slice none 0 0] 24) := ⟨_, rfl⟩
            rw [← hn] at hV6a HZ BB Vx Vy BG2 TG2
            rw [← hn]
            clear hn
            refine wpAnyW_ready (rs := [4]) (by kernel_rfl) (by simp) ?_
            refine AllReadyW.consL (i := 4) (L := #[true, true, true, true, true, true, false, false]) rfl rfl (by kernel_rfl) (by kernel_rfl) (fun K hK => ?_) ?_
            · go_simp
              have hw := below_new w7 (.cells #[.bool false, .slice none 0 0] 24)
              have hV7a := keep4 (by assumption) hw
              refine hK.out _ _ hV7a (fun _ => ?_)
              clear hK K
              try simp only [Act.put, List.setIfInBounds_toArray, List.set_cons_zero, List.set_cons_succ]
              obtain ⟨G1, hg⟩ : ∃ G1, G1 = w7.heap.size := ⟨_, rfl⟩
              have BG1 := Bw.of_blk (Blk.new w7 24 #[.bool false, .slice none 0 0]) rfl
              have ZG1 := HZ
              have qG1 := BB.size
              have TG1 : w7.heap.size < (w7.alloc (.cells #[.bool false, .slice none 0 0] 24)).heap.size := by simp
              try dsimp only [List.size_toArray, List.length_cons, List.length_nil] at BG1
              have yxG1 := Vx.own.away_new (Nat.le_refl _)
              have yyG1 := Vy.own.away_new (Nat.le_refl _)
              have eG2G1 : G2 ≠ w7.heap.size := Nat.ne_of_lt TG2
              have eG1G2 := eG2G1.symm
              replace Vx := Vx.below hw
              replace Vy := Vy.below hw
              replace BG2 := BG2.below hw
              replace TG2 := Nat.lt_of_lt_of_le TG2 hw.size
              replace HZ := Nat.le_trans HZ hw.size
              replace BB := below_step BB hw
              rw [← hg] at BG1 ZG1 TG1 qG1 yxG1 yyG1 eG2G1 eG1G2
              rw [← hg]
              clear hg hw
              obtain ⟨w8, hn⟩ : ∃ w8, w8 = w7.alloc (.cells #[.bool false, .slice none 0 0] 24) := ⟨_, rfl⟩
              rw [← hn] at hV7a HZ BB Vx Vy BG2 TG2 BG1 TG1
              rw [← hn]
              clear hn
              obtain ⟨⟨_, k0, f0⟩, ⟨_, k1, f1⟩⟩ := BG1.two
              refine wpAnyW_oneT (i := 6) (L := #[true, true, true, true, true, true, true, false]) (by kernel_rfl) rfl rfl (by kernel_rfl) (by kernel_rfl) (fun K hK => ?_)
              go_simp
              refine hK.out _ _ ?_
              clear hK K
              try simp only [Act.put, List.setIfInBounds_toArray, List.set_cons_zero, List.set_cons_succ]
              have hp := Put.set2 w8 G1 (.bool sa) (.slice (some Ax) na cx)
              obtain ⟨cG1_0, cG1_1⟩ := put2_cells BG1 (.bool sa) (.slice (some Ax) na cx)
              clear k0 f0 k1 f1
              obtain ⟨w9, hn⟩ : ∃ w9, w9 = ((w8.setCell ⟨G1, 0, none⟩ (.bool sa)).setCell ⟨G1, 1, none⟩ (.slice (some Ax) na cx)) := ⟨_, rfl⟩
              rw [← hn] at hp cG1_0 cG1_1
              rw [← hn]
              clear hn
              replace BG2 := BG2.put hp eG2G1
              replace Vx := Vx.put hp yxG1
              replace Vy := Vy.put hp yyG1
              replace BB := hp.bel _ _ qG1 BB
              clear hp
              obtain ⟨⟨_, k0, f0⟩, ⟨_, k1, f1⟩⟩ := BG2.two
              refine wpAnyW_oneT (i := 7) (L := #[true, true, true, true, true, true, true, true]) (by kernel_rfl) rfl rfl (by kernel_rfl) (by kernel_rfl) (fun K hK => ?_)
              go_simp
              refine hK.out _ _ ?_
              clear hK K
              try simp only [Act.put, List.setIfInBounds_toArray, List.set_cons_zero, List.set_cons_succ]
              have hp := Put.set2 w9 G2 (.bool sb) (.slice (some Ay) nb cy)
              obtain ⟨cG2_0, cG2_1⟩ := put2_cells BG2 (.bool sb) (.slice (some Ay) nb cy)
              clear k0 f0 k1 f1
              obtain ⟨w10, hn⟩ : ∃ w10, w10 = ((w9.setCell ⟨G2, 0, none⟩ (.bool sb)).setCell ⟨G2, 1, none⟩ (.slice (some Ay) nb cy)) := ⟨_, rfl⟩
              rw [← hn] at hp cG2_0 cG2_1
              rw [← hn]
              clear hn
              replace cG1_0 := (hp.cell eG1G2).trans cG1_0
              replace cG1_1 := (hp.cell eG1G2).trans cG1_1
              replace Vx := Vx.put hp yxG2
              replace Vy := Vy.put hp yyG2
              replace BB := hp.bel _ _ qG2 BB
              clear hp
              refine wpAnyW_done (by kernel_rfl) ?_ _
              refine NoPanic.normal ?_
              go_wp2_with fail
              go_meet
              exact ⟨G1, G2, Ax, cx, Ay, cy, rfl, rfl, BB, ZG1, cG1_0, cG1_1, ZG2, cG2_0, cG2_1, Vx, Vy⟩
            exact AllReadyW.nil
          exact AllReadyW.nil
        refine AllReadyW.consL (i := 4) (L := #[true, true, true, false, true, false, false, false]) rfl rfl (by kernel_rfl) (by kernel_rfl) (fun K hK => ?_) ?_
        · go_simp
          have hw := below_new w5 (.cells #[.bool false, .slice none 0 0] 24)
          have hV5a := keep4 (by assumption) hw
          refine hK.out _ _ hV5a (fun _ => ?_)
          clear hK K
          try simp only [Act.put, List.setIfInBounds_toArray, List.set_cons_zero, List.set_cons_succ]
          obtain ⟨G1, hg⟩ : ∃ G1, G1 = w5.heap.size := ⟨_, rfl⟩
          have BG1 := Bw.of_blk (Blk.new w5 24 #[.bool false, .slice none 0 0]) rfl
          have ZG1 := HZ
          have qG1 := BB.size
          have TG1 : w5.heap.size < (w5.alloc (.cells #[.bool false, .slice none 0 0] 24)).heap.size := by simp
          try dsimp only [List.size_toArray, List.length_cons, List.length_nil] at BG1
          have yxG1 := Vx.own.away_new (Nat.le_refl _)
          replace Vx := Vx.below hw
          replace HZ := Nat.le_trans HZ hw.size
          replace BB := below_step BB hw
          rw [← hg] at BG1 ZG1 TG1 qG1 yxG1
          rw [← hg]
          clear hg hw
          obtain ⟨w6, hn⟩ : ∃ w6, w6 = w5.alloc (.cells #[.bool false, .slice none 0 0] 24) := ⟨_, rfl⟩
          rw [← hn] at hV5a HZ BB Vx BG1 TG1
          rw [← hn]
          clear hn
          refine wpAnyW_ready (rs := [3, 5]) (by kernel_rfl) (by simp) ?_
          refine AllReadyW.consL (i := 3) (L := #[true, true, true, true, true, false, false, false]) rfl rfl (by kernel_rfl) (by kernel_rfl) (fun K hK => ?_) ?_
          · go_simp
            refine (iown_c _ ((to4 (by assumption)).in_ jb) (by omega)).mono ?_
            rintro e w7 ⟨Ay, cy, rfl, hr, ho, hl, hw⟩
            have Vy : OwnV w7 _ Ay nb cy lb := ⟨hr, ho, hl⟩
            clear hr ho hl
            have yyG1 := Vy.own.away_old TG1
            replace Vy := Vy.base (B' := w.heap.size + 2) HZ
            refine hK.out _ _ (keep4 (by assumption) hw) (fun hV7 => ?_)
            clear hK K
            try simp only [Act.put, List.setIfInBounds_toArray, List.set_cons_zero, List.set_cons_succ]
            replace Vx := Vx.below hw
            replace BG1 := BG1.below hw
            replace TG1 := Nat.lt_of_lt_of_le TG1 hw.size
            replace HZ := Nat.le_trans HZ hw.size
            replace BB := below_step BB hw
            clear hw
            refine wpAnyW_ready (rs := [5]) (by kernel_rfl) (by simp) ?_
            refine AllReadyW.consL (i := 5) (L := #[true, true, true, true, true, true, false, false]) rfl rfl (by kernel_rfl) (by kernel_rfl) (fun K hK => ?_) ?_
            · go_simp
              have hw := below_new w7 (.cells #[.bool false, .slice none 0 0] 24)
              have hV7a := keep4 (by assumption) hw
              refine hK.out _ _ hV7a (fun _ => ?_)
              clear hK K
              try simp only [Act.put, List.setIfInBounds_toArray, List.set_cons_zero, List.set_cons_succ]
              obtain ⟨G2, hg⟩ : ∃ G2, G2 = w7.heap.size := ⟨_, rfl⟩
              have BG2 := Bw.of_blk (Blk.new w7 24 #[.bool false, .slice none 0 0]) rfl
              have ZG2 := HZ
              have qG2 := BB.size
              have TG2 : w7.heap.size < (w7.alloc (.cells #[.bool false, .slice none 0 0] 24)).heap.size := by simp
              try dsimp only [List.size_toArray, List.length_cons, List.length_nil] at BG2
              have yxG2 := Vx.own.away_new (Nat.le_refl _)
              have yyG2 := Vy.own.away_new (Nat.le_refl _)
              have eG1G2 : G1 ≠ w7.heap.size := Nat.ne_of_lt TG1
              have eG2G1 := eG1G2.symm
              replace Vx := Vx.below hw
              replace Vy := Vy.below hw
              replace BG1 := BG1.below hw
              replace TG1 := Nat.lt_of_lt_of_le TG1 hw.size
              replace HZ := Nat.le_trans HZ hw.size
              replace BB := below_step BB hw
              rw [← hg] at BG2 ZG2 TG2 qG2 yxG2 yyG2 eG1G2 eG2G1
              rw [← hg]
              clear hg hw
              obtain ⟨w8, hn⟩ : ∃ w8, w8 = w7.alloc (.cells #[.bool false, .slice none 0 0] 24) := ⟨_, rfl⟩
              rw [← hn] at hV7a HZ BB Vx Vy BG1 TG1 BG2 TG2
              rw [← hn]
              clear hn
              obtain ⟨⟨_, k0, f0⟩, ⟨_, k1, f1⟩⟩ := BG1.two
              refine wpAnyW_oneT (i := 6) (L := #[true, true, true, true, true, true, true, false]) (by kernel_rfl) rfl rfl (by kernel_rfl) (by kernel_rfl) (fun K hK => ?_)
              go_simp
              refine hK.out _ _ ?_
              clear hK K
              try simp only [Act.put, List.setIfInBounds_toArray, List.set_cons_zero, List.set_cons_succ]
              have hp := Put.set2 w8 G1 (.bool sa) (.slice (some Ax) na cx)
              obtain ⟨cG1_0, cG1_1⟩ := put2_cells BG1 (.bool sa) (.slice (some Ax) na cx)
              clear k0 f0 k1 f1
              obtain ⟨w9, hn⟩ : ∃ w9, w9 = ((w8.setCell ⟨G1, 0, none⟩ (.bool sa)).setCell ⟨G1, 1, none⟩ (.slice (some Ax) na cx)) := ⟨_, rfl⟩
              rw [← hn] at hp cG1_0 cG1_1
              rw [← hn]
              clear hn
              replace BG2 := BG2.put hp eG2G1
              replace Vx := Vx.put hp yxG1
              replace Vy := Vy.put hp yyG1
              replace BB := hp.bel _ _ qG1 BB
              clear hp
              obtain ⟨⟨_, k0, f0⟩, ⟨_, k1, f1⟩⟩ := BG2.two
              refine wpAnyW_oneT (i := 7) (L := #[true, true, true, true, true, true, true, true]) (by kernel_rfl) rfl rfl (by kernel_rfl) (by kernel_rfl) (fun K hK => ?_)
              go_simp
              refine hK.out _ _ ?_
              clear hK K
              try simp only [Act.put, List.setIfInBounds_toArray, List.set_cons_zero, List.set_cons_succ]
              have hp := Put.set2 w9 G2 (.bool sb) (.slice (some Ay) nb cy)
              obtain ⟨cG2_0, cG2_1⟩ := put2_cells BG2 (.bool sb) (.slice (some Ay) nb cy)
              clear k0 f0 k1 f1
              obtain ⟨w10, hn⟩ : ∃ w10, w10 = ((w9.setCell ⟨G2, 0, none⟩ (.bool sb)).setCell ⟨G2, 1, none⟩ (.slice (some Ay) nb cy)) := ⟨_, rfl⟩
              rw [← hn] at hp cG2_0 cG2_1
              rw [← hn]
              clear hn
              replace cG1_0 := (hp.cell eG1G2).trans cG1_0
              replace cG1_1 := (hp.cell eG1G2).trans cG1_1
              replace Vx := Vx.put hp yxG2
              replace Vy := Vy.put hp yyG2
              replace BB := hp.bel _ _ qG2 BB
              clear hp
              refine wpAnyW_done (by kernel_rfl) ?_ _
              refine NoPanic.normal ?_
              go_wp2_with fail
              go_meet
              exact ⟨G1, G2, Ax, cx, Ay, cy, rfl, rfl, BB, ZG1, cG1_0, cG1_1, ZG2, cG2_0, cG2_1, Vx, Vy⟩
            exact AllReadyW.nil
          refine AllReadyW.consL (i := 5) (L := #[true, true, true, false, true, true, false, false]) rfl rfl (by kernel_rfl) (by kernel_rfl) (fun K hK => ?_) ?_
          · go_simp
            have hw := below_new w6 (.cells #[.bool false, .slice none 0 0] 24)
            have hV6a := keep4 (by assumption) hw
            refine hK.out _ _ hV6a (fun _ => ?_)
            clear hK K
            try simp only [Act.put, List.setIfInBounds_toArray, List.set_cons_zero, List.set_cons_succ]
            obtain ⟨G2, hg⟩ : ∃ G2, G2 = w6.heap.size := ⟨_, rfl⟩
            have BG2 := Bw.of_blk (Blk.new w6 24 #[.bool false, .slice none 0 0]) rfl
            have ZG2 := HZ
            have qG2 := BB.size
            have TG2 : w6.heap.size < (w6.alloc (.cells #[.bool false, .slice none 0 0] 24)).heap.size := by simp
            try dsimp only [List.size_toArray, List.length_cons, List.length_nil] at BG2
            have yxG2 := Vx.own.away_new (Nat.le_refl _)
            have eG1G2 : G1 ≠ w6.heap.size := Nat.ne_of_lt TG1
            have eG2G1 := eG1G2.symm
            replace Vx := Vx.below hw
            replace BG1 := BG1.below hw
            replace TG1 := Nat.lt_of_lt_of_le TG1 hw.size
            replace HZ := Nat.le_trans HZ hw.size
            replace BB := below_step BB hw
            rw [← hg] at BG2 ZG2 TG2 qG2 yxG2 eG1G2 eG2G1
            rw [← hg]
            clear hg hw
            obtain ⟨w7, hn⟩ : ∃ w7, w7 = w6.alloc (.cells #[.bool false, .slice none 0 0] 24) := ⟨_, rfl⟩
            rw [← hn] at hV6a HZ BB Vx BG1 TG1 BG2 TG2
            rw [← hn]
            clear hn
            refine wpAnyW_ready (rs := [3]) (by kernel_rfl) (by simp) ?_
            refine AllReadyW.consL (i := 3) (L := #[true, true, true, true, true, true, false, false]) rfl rfl (by kernel_rfl) (by kernel_rfl) (fun K hK => ?_) ?_
            · go_simp
              refine (iown_c _ ((to4 (by assumption)).in_ jb) (by omega)).mono ?_
              rintro e w8 ⟨Ay, cy, rfl, hr, ho, hl, hw⟩
              have Vy : OwnV w8 _ Ay nb cy lb := ⟨hr, ho, hl⟩
              clear hr ho hl
              have yyG1 := Vy.own.away_old TG1
              have yyG2 := Vy.own.away_old TG2
              replace Vy := Vy.base (B' := w.heap.size + 2) HZ
              refine hK.out _ _ (keep4 (by assumption) hw) (fun hV8 => ?_)
              clear hK K
              try simp only [Act.put, List.setIfInBounds_toArray, List.set_cons_zero, List.set_cons_succ]
              replace Vx := Vx.below hw
              replace BG1 := BG1.below hw
              replace TG1 := Nat.lt_of_lt_of_le TG1 hw.size
              replace BG2 := BG2.below hw
              replace TG2 := Nat.lt_of_lt_of_le TG2 hw.size
              replace HZ := Nat.le_trans HZ hw.size
              replace BB := below_step BB hw
              clear hw
              obtain ⟨⟨_, k0, f0⟩, ⟨_, k1, f1⟩⟩ := BG1.two
              refine wpAnyW_oneT (i := 6) (L := #[true, true, true, true, true, true, true, false]) (by kernel_rfl) rfl rfl (by kernel_rfl) (by kernel_rfl) (fun K hK => ?_)
              go_simp
              refine hK.out _ _ ?_
              clear hK K
              try simp only [Act.put, List.setIfInBounds_toArray, List.set_cons_zero, List.set_cons_succ]
              have hp := Put.set2 w8 G1 (.bool sa) (.slice (some Ax) na cx)
              obtain ⟨cG1_0, cG1_1⟩ := put2_cells BG1 (.bool sa) (.slice (some Ax) na cx)
              clear k0 f0 k1 f1
              obtain ⟨w9, hn⟩ : ∃ w9, w9 = ((w8.setCell ⟨G1, 0, none⟩ (.bool sa)).setCell ⟨G1, 1, none⟩ (.slice (some Ax) na cx)) := ⟨_, rfl⟩
              rw [← hn] at hp cG1_0 cG1_1
              rw [← hn]
              clear hn
              replace BG2 := BG2.put hp eG2G1
              replace Vx := Vx.put hp yxG1
              replace Vy := Vy.put hp yyG1
              replace BB := hp.bel _ _ qG1 BB
              clear hp
              obtain ⟨⟨_, k0, f0⟩, ⟨_, k1, f1⟩⟩ := BG2.two
              refine wpAnyW_oneT (i := 7) (L := #[true, true, true, true, true, true, true, true]) (by kernel_rfl) rfl rfl (by kernel_rfl) (by kernel_rfl) (fun K hK => ?_)
              go_simp
              refine hK.out _ _ ?_
              clear hK K
              try simp only [Act.put, List.setIfInBounds_toArray, List.set_cons_zero, List.set_cons_succ]
              have hp := Put.set2 w9 G2 (.bool sb) (.slice (some Ay) nb cy)
              obtain ⟨cG2_0, cG2_1⟩ := put2_cells BG2 (.bool sb) (.slice (some Ay) nb cy)
              clear k0 f0 k1 f1
              obtain ⟨w10, hn⟩ : ∃ w10, w10 = ((w9.setCell ⟨G2, 0, none⟩ (.bool sb)).setCell ⟨G2, 1, none⟩ (.slice (some Ay) nb cy)) := ⟨_, rfl⟩
              rw [← hn] at hp cG2_0 cG2_1
              rw [← hn]
              clear hn
              replace cG1_0 := (hp.cell eG1G2).trans cG1_0
              replace cG1_1 := (hp.cell eG1G2).trans cG1_1
              replace Vx := Vx.put hp yxG2
              replace Vy := Vy.put hp yyG2
              replace BB := hp.bel _ _ qG2 BB
              clear hp
              refine wpAnyW_done (by kernel_rfl) ?_ _
              refine NoPanic.normal ?_
              go_wp2_with fail
              go_meet
              exact ⟨G1, G2, Ax, cx, Ay, cy, rfl, rfl, BB, ZG1, cG1_0, cG1_1, ZG2, cG2_0, cG2_1, Vx, Vy⟩
            exact AllReadyW.nil
          exact AllReadyW.nil
        refine AllReadyW.consL (i := 5) (L := #[true, true, true, false, false, true, false, false]) rfl rfl (by kernel_rfl) (by kernel_rfl) (fun K hK => ?_) ?_
        · go_simp
          have hw := below_new w5 (.cells #[.bool false, .slice none 0 0] 24)
          have hV5a := keep4 (by assumption) hw
          refine hK.out _ _ hV5a (fun _ => ?_)
          clear hK K
          try simp only [Act.put, List.setIfInBounds_toArray, List.set_cons_zero, List.set_cons_succ]
          obtain ⟨G2, hg⟩ : ∃ G2, G2 = w5.heap.size := ⟨_, rfl⟩
          have BG2 := Bw.of_blk (Blk.new w5 24 #[.bool false, .slice none 0 0]) rfl
          have ZG2 := HZ
          have qG2 := BB.size
          have TG2 : w5.heap.size < (w5.alloc (.cells #[.bool false, .slice none 0 0] 24)).heap.size := by simp
          try dsimp only [List.size_toArray, List.length_cons, List.length_nil] at BG2
          have yxG2 := Vx.own.away_new (Nat.le_refl _)
          replace Vx := Vx.below hw
          replace HZ := Nat.le_trans HZ hw.size
          replace BB := below_step BB hw
          rw [← hg] at BG2 ZG2 TG2 qG2 yxG2
          rw [← hg]
          clear hg hw
          obtain ⟨w6, hn⟩ : ∃ w6, w6 = w5.alloc (.cells #[.bool false, .slice none 0 0] 24) := ⟨_, rfl⟩
          rw [← hn] at hV5a HZ BB Vx BG2 TG2
          rw [← hn]
          clear hn
          refine wpAnyW_ready (rs := [3, 4]) (by kernel_rfl) (by simp) ?_
          refine AllReadyW.consL (i := 3) (L := #[true, true, true, true, false, true, false, false]) rfl rfl (by kernel_rfl) (by kernel_rfl) (fun K hK => ?_) ?_
          · go_simp
            refine (iown_c _ ((to4 (by assumption)).in_ jb) (by omega)).mono ?_
            rintro e w7 ⟨Ay, cy, rfl, hr, ho, hl, hw⟩
            have Vy : OwnV w7 _ Ay nb cy lb := ⟨hr, ho, hl⟩
            clear hr ho hl
            have yyG2 := Vy.own.away_old TG2
            replace Vy := Vy.base (B' := w.heap.size + 2) HZ
            refine hK.out _ _ (keep4 (by assumption) hw) (fun hV7 => ?_)
            clear hK K
            try simp only [Act.put, List.setIfInBounds_toArray, List.set_cons_zero, List.set_cons_succ]
            replace Vx := Vx.below hw
            replace BG2 := BG2.below hw
            replace TG2 := Nat.lt_of_lt_of_le TG2 hw.size
            replace HZ := Nat.le_trans HZ hw.size
            replace BB := below_step BB hw
            clear hw
            refine wpAnyW_ready (rs := [4]) (by kernel_rfl) (by simp) ?_
            refine AllReadyW.consL (i := 4) (L := #[true, true, true, true, true, true, false, false]) rfl rfl (by kernel_rfl) (by kernel_rfl) (fun K hK => ?_) ?_
            · go_simp
              have hw := below_new w7 (.cells #[.bool false, .slice none 0 0] 24)
              have hV7a := keep4 (by assumption) hw
              refine hK.out _ _ hV7a (fun _ => ?_)
              clear hK K
              try simp only [Act.put, List.setIfInBounds_toArray, List.set_cons_zero, List.set_cons_succ]
              obtain ⟨G1, hg⟩ : ∃ G1, G1 = w7.heap.size := ⟨_, rfl⟩
              have BG1 := Bw.of_blk (Blk.new w7 24 #[.bool false, .slice none 0 0]) rfl
              have ZG1 := HZ
              have qG1 := BB.size
              have TG1 : w7.heap.size < (w7.alloc (.cells #[.bool false, .slice none 0 0] 24)).heap.size := by simp
              try dsimp only [List.size_toArray, List.length_cons, List.length_nil] at BG1
              have yxG1 := Vx.own.away_new (Nat.le_refl _)
              have yyG1 := Vy.own.away_new (Nat.le_refl _)
              have eG2G1 : G2 ≠ w7.heap.size := Nat.ne_of_lt TG2
              have eG1G2 := eG2G1.symm
              replace Vx := Vx.below hw
              replace Vy := Vy.below hw
              replace BG2 := BG2.below hw
              replace TG2 := Nat.lt_of_lt_of_le TG2 hw.size
              replace HZ := Nat.le_trans HZ hw.size
              replace BB := below_step BB hw
              rw [← hg] at BG1 ZG1 TG1 qG1 yxG1 yyG1 eG2G1 eG1G2
              rw [← hg]
              clear hg hw
              obtain ⟨w8, hn⟩ : ∃ w8, w8 = w7.alloc (.cells #[.bool false, .slice none 0 0] 24) := ⟨_, rfl⟩
              rw [← hn] at hV7a HZ BB Vx Vy BG2 TG2 BG1 TG1
              rw [← hn]
              clear hn
              obtain ⟨⟨_, k0, f0⟩, ⟨_, k1, f1⟩⟩ := BG1.two
              refine wpAnyW_oneT (i := 6) (L := #[true, true, true, true, true, true, true, false]) (by kernel_rfl) rfl rfl (by kernel_rfl) (by kernel_rfl) (fun K hK => ?_)
              go_simp
              refine hK.out _ _ ?_
              clear hK K
              try simp only [Act.put, List.setIfInBounds_toArray, List.set_cons_zero, List.set_cons_succ]
              have hp := Put.set2 w8 G1 (.bool sa) (.slice (some Ax) na cx)
              obtain ⟨cG1_0, cG1_1⟩ := put2_cells BG1 (.bool sa) (.slice (some Ax) na cx)
              clear k0 f0 k1 f1
              obtain ⟨w9, hn⟩ : ∃ w9, w9 = ((w8.setCell ⟨G1, 0, none⟩ (.bool sa)).setCell ⟨G1, 1, none⟩ (.slice (some Ax) na cx)) := ⟨_, rfl⟩
              rw [← hn] at hp cG1_0 cG1_1
              rw [← hn]
              clear hn
              replace BG2 := BG2.put hp eG2G1
              replace Vx := Vx.put hp yxG1
              replace Vy := Vy.put hp yyG1
              replace BB := hp.bel _ _ qG1 BB
              clear hp
              obtain ⟨⟨_, k0, f0⟩, ⟨_, k1, f1⟩⟩ := BG2.two
              refine wpAnyW_oneT (i := 7) (L := #[true, true, true, true, true, true, true, true]) (by kernel_rfl) rfl rfl (by kernel_rfl) (by kernel_rfl) (fun K hK => ?_)
              go_simp
              refine hK.out _ _ ?_
              clear hK K
              try simp only [Act.put, List.setIfInBounds_toArray, List.set_cons_zero, List.set_cons_succ]
              have hp := Put.set2 w9 G2 (.bool sb) (.slice (some Ay) nb cy)
              obtain ⟨cG2_0, cG2_1⟩ := put2_cells BG2 (.bool sb) (.slice (some Ay) nb cy)
              clear k0 f0 k1 f1
              obtain ⟨w10, hn⟩ : ∃ w10, w10 = ((w9.setCell ⟨G2, 0, none⟩ (.bool sb)).setCell ⟨G2, 1, none⟩ (.slice (some Ay) nb cy)) := ⟨_, rfl⟩
              rw [← hn] at hp cG2_0 cG2_1
              rw [← hn]
              clear hn
              replace cG1_0 := (hp.cell eG1G2).trans cG1_0
              replace cG1_1 := (hp.cell eG1G2).trans cG1_1
              replace Vx := Vx.put hp yxG2
              replace Vy := Vy.put hp yyG2
              replace BB := hp.bel _ _ qG2 BB
              clear hp
              refine wpAnyW_done (by kernel_rfl) ?_ _
              refine NoPanic.normal ?_
              go_wp2_with fail
              go_meet
              exact ⟨G1, G2, Ax, cx, Ay, cy, rfl, rfl, BB, ZG1, cG1_0, cG1_1, ZG2, cG2_0, cG2_1, Vx, Vy⟩
            exact AllReadyW.nil
          refine AllReadyW.consL (i := 4) (L := #[true, true, true, false, true, true, false, false]) rfl rfl (by kernel_rfl) (by kernel_rfl) (fun K hK => ?_) ?_
          · go_simp
            have hw := below_new w6 (.cells #[.bool false, .slice none 0 0] 24)
            have hV6a := keep4 (by assumption) hw
            refine hK.out _ _ hV6a (fun _ => ?_)
            clear hK K
            try simp only [Act.put, List.setIfInBounds_toArray, List.set_cons_zero, List.set_cons_succ]
            obtain ⟨G1, hg⟩ : ∃ G1, G1 = w6.heap.size := ⟨_, rfl⟩
            have BG1 := Bw.of_blk (Blk.new w6 24 #[.bool false, .slice none 0 0]) rfl
            have ZG1 := HZ
            have qG1 := BB.size
            have TG1 : w6.heap.size < (w6.alloc (.cells #[.bool false, .slice none 0 0] 24)).heap.size := by simp
            try dsimp only [List.size_toArray, List.length_cons, List.length_nil] at BG1
            have yxG1 := Vx.own.away_new (Nat.le_refl _)
            have eG2G1 : G2 ≠ w6.heap.size := Nat.ne_of_lt TG2
            have eG1G2 := eG2G1.symm
            replace Vx := Vx.below hw
            replace BG2 := BG2.below hw
            replace TG2 := Nat.lt_of_lt_of_le TG2 hw.size
            replace HZ := Nat.le_trans HZ hw.size
            replace BB := below_step BB hw
            rw [← hg] at BG1 ZG1 TG1 qG1 yxG1 eG2G1 eG1G2
            rw [← hg]
            clear hg hw
            obtain ⟨w7, hn⟩ : ∃ w7, w7 = w6.alloc (.cells #[.bool false, .slice none 0 0] 24) := ⟨_, rfl⟩
            rw [← hn] at hV6a HZ BB Vx BG2 TG2 BG1 TG1
            rw [← hn]
            clear hn
            refine wpAnyW_ready (rs := [3]) (by kernel_rfl) (by simp) ?_
            refine AllReadyW.consL (i := 3) (L := #[true, true, true, true, true, true, false, false]) rfl rfl (by kernel_rfl) (by kernel_rfl) (fun K hK => ?_) ?_
            · go_simp
              refine (iown_c _ ((to4 (by assumption)).in_ jb) (by omega)).mono ?_
              rintro e w8 ⟨Ay, cy, rfl, hr, ho, hl, hw⟩
              have Vy : OwnV w8 _ Ay nb cy lb := ⟨hr, ho, hl⟩
              clear hr ho hl
              have yyG2 := Vy.own.away_old TG2
              have yyG1 := Vy.own.away_old TG1
              replace Vy := Vy.base (B' := w.heap.size + 2) HZ
              refine hK.out _ _ (keep4 (by assumption) hw) (fun hV8 => ?_)
              clear hK K
              try simp only [Act.put, List.setIfInBounds_toArray, List.set_cons_zero, List.set_cons_succ]
              replace Vx := Vx.below hw
              replace BG2 := BG2.below hw
              replace TG2 := Nat.lt_of_lt_of_le TG2 hw.size
              replace BG1 := BG1.below hw
              replace TG1 := Nat.lt_of_lt_of_le TG1 hw.size
              replace HZ := Nat.le_trans HZ hw.size
              replace BB := below_step BB hw
              clear hw
              obtain ⟨⟨_, k0, f0⟩, ⟨_, k1, f1⟩⟩ := BG1.two
              refine wpAnyW_oneT (i := 6) (L := #[true, true, true, true, true, true, true, false]) (by kernel_rfl) rfl rfl (by kernel_rfl) (by kernel_rfl) (fun K hK => ?_)
              go_simp
              refine hK.out _ _ ?_
              clear hK K
              try simp only [Act.put, List.setIfInBounds_toArray, List.set_cons_zero, List.set_cons_succ]
              have hp := Put.set2 w8 G1 (.bool sa) (.slice (some Ax) na cx)
              obtain ⟨cG1_0, cG1_1⟩ := put2_cells BG1 (.bool sa) (.slice (some Ax) na cx)
              clear k0 f0 k1 f1
              obtain ⟨w9, hn⟩ : ∃ w9, w9 = ((w8.setCell ⟨G1, 0, none⟩ (.bool sa)).setCell ⟨G1, 1, none⟩ (.slice (some Ax) na cx)) := ⟨_, rfl⟩
              rw [← hn] at hp cG1_0 cG1_1
              rw [← hn]
              clear hn
              replace BG2 := BG2.put hp eG2G1
              replace Vx := Vx.put hp yxG1
              replace Vy := Vy.put hp yyG1
              replace BB := hp.bel _ _ qG1 BB
              clear hp
              obtain ⟨⟨_, k0, f0⟩, ⟨_, k1, f1⟩⟩ := BG2.two
              refine wpAnyW_oneT (i := 7) (L := #[true, true, true, true, true, true, true, true]) (by kernel_rfl) rfl rfl (by kernel_rfl) (by kernel_rfl) (fun K hK => ?_)
              go_simp
              refine hK.out _ _ ?_
              clear hK K
              try simp only [Act.put, List.setIfInBounds_toArray, List.set_cons_zero, List.set_cons_succ]
              have hp := Put.set2 w9 G2 (.bool sb) (.slice (some Ay) nb cy)
              obtain ⟨cG2_0, cG2_1⟩ := put2_cells BG2 (.bool sb) (.slice (some Ay) nb cy)
              clear k0 f0 k1 f1
              obtain ⟨w10, hn⟩ : ∃ w10, w10 = ((w9.setCell ⟨G2, 0, none⟩ (.bool sb)).setCell ⟨G2, 1, none⟩ (.slice (some Ay) nb cy)) := ⟨_, rfl⟩
              rw [← hn] at hp cG2_0 cG2_1
              rw [← hn]
              clear hn
              replace cG1_0 := (hp.cell eG1G2).trans cG1_0
              replace cG1_1 := (hp.cell eG1G2).trans cG1_1
              replace Vx := Vx.put hp yxG2
              replace Vy := Vy.put hp yyG2
              replace BB := hp.bel _ _ qG2 BB
              clear hp
              refine wpAnyW_done (by kernel_rfl) ?_ _
              refine NoPanic.normal ?_
              go_wp2_with fail
              go_meet
              exact ⟨G1, G2, Ax, cx, Ay, cy, rfl, rfl, BB, ZG1, cG1_0, cG1_1, ZG2, cG2_0, cG2_1, Vx, Vy⟩
            exact AllReadyW.nil
          exact AllReadyW.nil
        exact AllReadyW.nil
      refine AllReadyW.consL (i := 4) (L := #[true, false, true, false, true, false, false, false]) rfl rfl (by kernel_rfl) (by kernel_rfl) (fun K hK => ?_) ?_
      · go_simp
        have hw := below_new w4 (.cells #[.bool false, .slice none 0 0] 24)
        have hV4a := keep4 (by assumption) hw
        refine hK.out _ _ hV4a (fun _ => ?_)
        clear hK K
        try simp only [Act.put, List.setIfInBounds_toArray, List.set_cons_zero, List.set_cons_succ]
        obtain ⟨G1, hg⟩ : ∃ G1, G1 = w4.heap.size := ⟨_, rfl⟩
        have BG1 := Bw.of_blk (Blk.new w4 24 #[.bool false, .slice none 0 0]) rfl
        have ZG1 := HZ
        have qG1 := BB.size
        have TG1 : w4.heap.size < (w4.alloc (.cells #[.bool false, .slice none 0 0] 24)).heap.size := by simp
        try dsimp only [List.size_toArray, List.length_cons, List.length_nil] at BG1
        replace HZ := Nat.le_trans HZ hw.size
        replace BB := below_step BB hw
        rw [← hg] at BG1 ZG1 TG1 qG1
        rw [← hg]
        clear hg hw
        obtain ⟨w5, hn⟩ : ∃ w5, w5 = w4.alloc (.cells #[.bool false, .slice none 0 0] 24) := ⟨_, rfl⟩
        rw [← hn] at hV4a HZ BB BG1 TG1
        rw [← hn]
        clear hn
        refine wpAnyW_ready (rs := [1, 5]) (by kernel_rfl) (by simp) ?_
        refine AllReadyW.consL (i := 1) (L := #[true, true, true, false, true, false, false, false]) rfl rfl (by kernel_rfl) (by kernel_rfl) (fun K hK => ?_) ?_
        · go_simp
          refine (iown_c _ ((to4 (by assumption)).in_ ja) (by omega)).mono ?_
          rintro e w6 ⟨Ax, cx, rfl, hr, ho, hl, hw⟩
          have Vx : OwnV w6 _ Ax na cx la := ⟨hr, ho, hl⟩
          clear hr ho hl
          have yxG1 := Vx.own.away_old TG1
          replace Vx := Vx.base (B' := w.heap.size + 2) HZ
          refine hK.out _ _ (keep4 (by assumption) hw) (fun hV6 => ?_)
          clear hK K
          try simp only [Act.put, List.setIfInBounds_toArray, List.set_cons_zero, List.set_cons_succ]
          replace BG1 := BG1.below hw
          replace TG1 := Nat.lt_of_lt_of_le TG1 hw.size
          replace HZ := Nat.le_trans HZ hw.size
          replace BB := below_step BB hw
          clear hw
          refine wpAnyW_ready (rs := [3, 5]) (by kernel_rfl) (by simp) ?_
          refine AllReadyW.consL (i := 3) (L := #[true, true, true, true, true, false, false, false]) rfl rfl (by kernel_rfl) (by kernel_rfl) (fun K hK => ?_) ?_
          · go_simp
            refine (iown_c _ ((to4 (by assumption)).in_ jb) (by omega)).mono ?_
            rintro e w7 ⟨Ay, cy, rfl, hr, ho, hl, hw⟩
            have Vy : OwnV w7 _ Ay nb cy lb := ⟨hr, ho, hl⟩
            clear hr ho hl
            have yyG1 := Vy.own.away_old TG1
            replace Vy := Vy.base (B' := w.heap.size + 2) HZ
            refine hK.out _ _ (keep4 (by assumption) hw) (fun hV7 => ?_)
            clear hK K
            try simp only [Act.put, List.setIfInBounds_toArray, List.set_cons_zero, List.set_cons_succ]
            replace Vx := Vx.below hw
            replace BG1 := BG1.below hw
            replace TG1 := Nat.lt_of_lt_of_le TG1 hw.size
            replace HZ := Nat.le_trans HZ hw.size
            replace BB := below_step BB hw
            clear hw
            refine wpAnyW_ready (rs := [5]) (by kernel_rfl) (by simp) ?_
            refine AllReadyW.consL (i := 5) (L := #[true, true, true, true, true, true, false, false]) rfl rfl (by kernel_rfl) (by kernel_rfl) (fun K hK => ?_) ?_
            · go_simp
              have hw := below_new w7 (.cells #[.bool false, .slice none 0 0] 24)
              have hV7a := keep4 (by assumption) hw
              refine hK.out _ _ hV7a (fun _ => ?_)
              clear hK K
              try simp only [Act.put, List.setIfInBounds_toArray, List.set_cons_zero, List.set_cons_succ]
              obtain ⟨G2, hg⟩ : ∃ G2, G2 = w7.heap.size := ⟨_, rfl⟩
              have BG2 := Bw.of_blk (Blk.new w7 24 #[.bool false, .slice none 0 0]) rfl
              have ZG2 := HZ
              have qG2 := BB.size
              have TG2 : w7.heap.size < (w7.alloc (.cells #[.bool false, .slice none 0 0] 24)).heap.size := by simp
              try dsimp only [List.size_toArray, List.length_cons, List.length_nil] at BG2
              have yxG2 := Vx.own.away_new (Nat.le_refl _)
              have yyG2 := Vy.own.away_new (Nat.le_refl _)
              have eG1G2 : G1 ≠ w7.heap.size := Nat.ne_of_lt TG1
              have eG2G1 := eG1G2.symm
              replace Vx := Vx.below hw
              replace Vy := Vy.below hw
              replace BG1 := BG1.below hw
              replace TG1 := Nat.lt_of_lt_of_le TG1 hw.size
              replace HZ := Nat.le_trans HZ hw.size
              replace BB := below_step BB hw
              rw [← hg] at BG2 ZG2 TG2 qG2 yxG2 yyG2 eG1G2 eG2G1
              rw [← hg]
              clear hg hw
              obtain ⟨w8, hn⟩ : ∃ w8, w8 = w7.alloc (.cells #[.bool false, .slice none 0 0] 24) := ⟨_, rfl⟩
              rw [← hn] at hV7a HZ BB Vx Vy BG1 TG1 BG2 TG2
              rw [← hn]
              clear hn
              obtain ⟨⟨_, k0, f0⟩, ⟨_, k1, f1⟩⟩ := BG1.two
              refine wpAnyW_oneT (i := 6) (L := #[true, true, true, true, true, true, true, false]) (by kernel_rfl) rfl rfl (by kernel_rfl) (by kernel_rfl) (fun K hK => ?_)
              go_simp
              refine hK.out _ _ ?_
              clear hK K
              try simp only [Act.put, List.setIfInBounds_toArray, List.set_cons_zero, List.set_cons_succ]
              have hp := Put.set2 w8 G1 (.bool sa) (.slice (some Ax) na cx)
              obtain ⟨cG1_0, cG1_1⟩ := put2_cells BG1 (.bool sa) (.slice (some Ax) na cx)
              clear k0 f0 k1 f1
              obtain ⟨w9, hn⟩ : ∃ w9, w9 = ((w8.setCell ⟨G1, 0, none⟩ (.bool sa)).setCell ⟨G1, 1, none⟩ (.slice (some Ax) na cx)) := ⟨_, rfl⟩
              rw [← hn] at hp cG1_0 cG1_1
              rw [← hn]
              clear hn
              replace BG2 := BG2.put hp eG2G1
              replace Vx := Vx.put hp yxG1
              replace Vy := Vy.put hp yyG1
              replace BB := hp.bel _ _ qG1 BB
              clear hp
              obtain ⟨⟨_, k0, f0⟩, ⟨_, k1, f1⟩⟩ := BG2.two
              refine wpAnyW_oneT (i := 7) (L := #[true, true, true, true, true, true, true, true]) (by kernel_rfl) rfl rfl (by kernel_rfl) (by kernel_rfl) (fun K hK => ?_)
              go_simp
              refine hK.out _ _ ?_
              clear hK K
              try simp only [Act.put, List.setIfInBounds_toArray, List.set_cons_zero, List.set_cons_succ]
              have hp := Put.set2 w9 G2 (.bool sb) (.slice (some Ay) nb cy)
              obtain ⟨cG2_0, cG2_1⟩ := put2_cells BG2 (.bool sb) (.slice (some Ay) nb cy)
              clear k0 f0 k1 f1
              obtain ⟨w10, hn⟩ : ∃ w10, w10 = ((w9.setCell ⟨G2, 0, none⟩ (.bool sb)).setCell ⟨G2, 1, none⟩ (.slice (some Ay) nb cy)) := ⟨_, rfl⟩
              rw [← hn] at hp cG2_0 cG2_1
              rw [← hn]
              clear hn
              replace cG1_0 := (hp.cell eG1G2).trans cG1_0
              replace cG1_1 := (hp.cell eG1G2).trans cG1_1
              replace Vx := Vx.put hp yxG2
              replace Vy := Vy.put hp yyG2
              replace BB := hp.bel _ _ qG2 BB
              clear hp
              refine wpAnyW_done (by kernel_rfl) ?_ _
              refine NoPanic.normal ?_
              go_wp2_with fail
              go_meet
              exact ⟨G1, G2, Ax, cx, Ay, cy, rfl, rfl, BB, ZG1, cG1_0, cG1_1, ZG2, cG2_0, cG2_1, Vx, Vy⟩
            exact AllReadyW.nil
          refine AllReadyW.consL (i := 5) (L := #[true, true, true, false, true, true, false, false]) rfl rfl (by kernel_rfl) (by kernel_rfl) (fun K hK => ?_) ?_
          · go_simp
            have hw := below_new w6 (.cells #[.bool false, .slice none 0 0] 24)
            have hV6a := keep4 (by assumption) hw
            refine hK.out _ _ hV6a (fun _ => ?_)
            clear hK K
            try simp only [Act.put, List.setIfInBounds_toArray, List.set_cons_zero, List.set_cons_succ]
            obtain ⟨G2, hg⟩ : ∃ G2, G2 = w6.heap.size := ⟨_, rfl⟩
            have BG2 := Bw.of_blk (Blk.new w6 24 #[.bool false, .slice none 0 0]) rfl
            have ZG2 := HZ
            have qG2 := BB.size
            have TG2 : w6.heap.size < (w6.alloc (.cells #[.bool false, .slice none 0 0] 24)).heap.size := by simp
            try dsimp only [List.size_toArray, List.length_cons, List.length_nil] at BG2
            have yxG2 := Vx.own.away_new (Nat.le_refl _)
            have eG1G2 : G1 ≠ w6.heap.size := Nat.ne_of_lt TG1
            have eG2G1 := eG1G2.symm
            replace Vx := Vx.below hw
            replace BG1 := BG1.below hw
            replace TG1 := Nat.lt_of_lt_of_le TG1 hw.size
            replace HZ := Nat.le_trans HZ hw.size
            replace BB := below_step BB hw
            rw [← hg] at BG2 ZG2 TG2 qG2 yxG2 eG1G2 eG2G1
            rw [← hg]
            clear hg hw
            obtain ⟨w7, hn⟩ : ∃ w7, w7 = w6.alloc (.cells #[.bool false, .slice none 0 0] 24) := ⟨_, rfl⟩
            rw [← hn] at hV6a HZ BB Vx BG1 TG1 BG2 TG2
            rw [← hn]
            clear hn
            refine wpAnyW_ready (rs := [3]) (by kernel_rfl) (by simp) ?_
            refine AllReadyW.consL (i := 3) (L := #[true, true, true, true, true, true, false, false]) rfl rfl (by kernel_rfl) (by kernel_rfl) (fun K hK => ?_) ?_
            · go_simp
              refine (iown_c _ ((to4 (by assumption)).in_ jb) (by omega)).mono ?_
              rintro e w8 ⟨Ay, cy, rfl, hr, ho, hl, hw⟩
              have Vy : OwnV w8 _ Ay nb cy lb := ⟨hr, ho, hl⟩
              clear hr ho hl
              have yyG1 := Vy.own.away_old TG1
              have yyG2 := Vy.own.away_old TG2
              replace Vy := Vy.base (B' := w.heap.size + 2) HZ
              refine hK.out _ _ (keep4 (by assumption) hw) (fun hV8 => ?_)
              clear hK K
              try simp only [Act.put, List.setIfInBounds_toArray, List.set_cons_zero, List.set_cons_succ]
              replace Vx := Vx.below hw
              replace BG1 := BG1.below hw
              replace TG1 := Nat.lt_of_lt_of_le TG1 hw.size
              replace BG2 := BG2.below hw
              replace TG2 := Nat.lt_of_lt_of_le TG2 hw.size
              replace HZ := Nat.le_trans HZ hw.size
              replace BB := below_step BB hw
              clear hw
              obtain ⟨⟨_, k0, f0⟩, ⟨_, k1, f1⟩⟩ := BG1.two
              refine wpAnyW_oneT (i := 6) (L := #[true, true, true, true, true, true, true, false]) (by kernel_rfl) rfl rfl (by kernel_rfl) (by kernel_rfl) (fun K hK => ?_)
              go_simp
              refine hK.out _ _ ?_
              clear hK K
              try simp only [Act.put, List.setIfInBounds_toArray, List.set_cons_zero, List.set_cons_succ]
              have hp := Put.set2 w8 G1 (.bool sa) (.slice (some Ax) na cx)
              obtain ⟨cG1_0, cG1_1⟩ := put2_cells BG1 (.bool sa) (.slice (some Ax) na cx)
              clear k0 f0 k1 f1
              obtain ⟨w9, hn⟩ : ∃ w9, w9 = ((w8.setCell ⟨G1, 0, none⟩ (.bool sa)).setCell ⟨G1, 1, none⟩ (.slice (some Ax) na cx)) := ⟨_, rfl⟩
              rw [← hn] at hp cG1_0 cG1_1
              rw [← hn]
              clear hn
              replace BG2 := BG2.put hp eG2G1
              replace Vx := Vx.put hp yxG1
              replace Vy := Vy.put hp yyG1
              replace BB := hp.bel _ _ qG1 BB
              clear hp
              obtain ⟨⟨_, k0, f0⟩, ⟨_, k1, f1⟩⟩ := BG2.two
              refine wpAnyW_oneT (i := 7) (L := #[true, true, true, true, true, true, true, true]) (by kernel_rfl) rfl rfl (by kernel_rfl) (by kernel_rfl) (fun K hK => ?_)
              go_simp
              refine hK.out _ _ ?_
              clear hK K
              try simp only [Act.put, List.setIfInBounds_toArray, List.set_cons_zero, List.set_cons_succ]
              have hp := Put.set2 w9 G2 (.bool sb) (.slice (some Ay) nb cy)
              obtain ⟨cG2_0, cG2_1⟩ := put2_cells BG2 (.bool sb) (.slice (some Ay) nb cy)
              clear k0 f0 k1 f1
              obtain ⟨w10, hn⟩ : ∃ w10, w10 = ((w9.setCell ⟨G2, 0, none⟩ (.bool sb)).setCell ⟨G2, 1, none⟩ (.slice (some Ay) nb cy)) := ⟨_, rfl⟩
              rw [← hn] at hp cG2_0 cG2_1
              rw [← hn]
              clear hn
              replace cG1_0 := (hp.cell eG1G2).trans cG1_0
              replace cG1_1 := (hp.cell eG1G2).trans cG1_1
              replace Vx := Vx.put hp yxG2
              replace Vy := Vy.put hp yyG2
              replace BB := hp.bel _ _ qG2 BB
              clear hp
              refine wpAnyW_done (by kernel_rfl) ?_ _
              refine NoPanic.normal ?_
              go_wp2_with fail
              go_meet
              exact ⟨G1, G2, Ax, cx, Ay, cy, rfl, rfl, BB, ZG1, cG1_0, cG1_1, ZG2, cG2_0, cG2_1, Vx, Vy⟩
            exact AllReadyW.nil
          exact AllReadyW.nil
        refine AllReadyW.consL (i := 5) (L := #[true, false, true, false, true, true, false, false]) rfl rfl (by kernel_rfl) (by kernel_rfl) (fun K hK => ?_) ?_
        · go_simp
          have hw := below_new w5 (.cells #[.bool false, .slice none 0 0] 24)
          have hV5a := keep4 (by assumption) hw
          refine hK.out _ _ hV5a (fun _ => ?_)
          clear hK K
          try simp only [Act.put, List.setIfInBounds_toArray, List.set_cons_zero, List.set_cons_succ]
          obtain ⟨G2, hg⟩ : ∃ G2, G2 = w5.heap.size := ⟨_, rfl⟩
          have BG2 := Bw.of_blk (Blk.new w5 24 #[.bool false, .slice none 0 0]) rfl
          have ZG2 := HZ
          have qG2 := BB.size
          have TG2 : w5.heap.size < (w5.alloc (.cells #[.bool false, .slice none 0 0] 24)).heap.size := by simp
          try dsimp only [List.size_toArray, List.length_cons, List.length_nil] at BG2
          have eG1G2 : G1 ≠ w5.heap.size := Nat.ne_of_lt TG1
          have eG2G1 := eG1G2.symm
          replace BG1 := BG1.below hw
          replace TG1 := Nat.lt_of_lt_of_le TG1 hw.size
          replace HZ := Nat.le_trans HZ hw.size
          replace BB := below_step BB hw
          rw [← hg] at BG2 ZG2 TG2 qG2 eG1G2 eG2G1
          rw [← hg]
          clear hg hw
          obtain ⟨w6, hn⟩ : ∃ w6, w6 = w5.alloc (.cells #[.bool false, .slice none 0 0] 24) := ⟨_, rfl⟩
          rw [← hn] at hV5a HZ BB BG1 TG1 BG2 TG2
          rw [← hn]
          clear hn
          refine wpAnyW_ready (rs := [1]) (by kernel_rfl) (by simp) ?_
          refine AllReadyW.consL (i := 1) (L := #[true, true, true, false, true, true, false, false]) rfl rfl (by kernel_rfl) (by kernel_rfl) (fun K hK => ?_) ?_
          · go_simp
            refine (iown_c _ ((to4 (by assumption)).in_ ja) (by omega)).mono ?_
            rintro e w7 ⟨Ax, cx, rfl, hr, ho, hl, hw⟩
            have Vx : OwnV w7 _ Ax na cx la := ⟨hr, ho, hl⟩
            clear hr ho hl
            have yxG1 := Vx.own.away_old TG1
            have yxG2 := Vx.own.away_old TG2
            replace Vx := Vx.base (B' := w.heap.size + 2) HZ
            refine hK.out _ _ (keep4 (by assumption) hw) (fun hV7 => ?_)
            clear hK K
            try simp only [Act.put, List.setIfInBounds_toArray, List.set_cons_zero, List.set_cons_succ]
            replace BG1 := BG1.below hw
            replace TG1 := Nat.lt_of_lt_of_le TG1 hw.size
            replace BG2 := BG2.below hw
            replace TG2 := Nat.lt_of_lt_of_le TG2 hw.size
            replace HZ := Nat.le_trans HZ hw.size
            replace BB := below_step BB hw
            clear hw
            refine wpAnyW_ready (rs := [3]) (by kernel_rfl) (by simp) ?_
            refine AllReadyW.consL (i := 3) (L := #[true, true, true, true, true, true, false, false]) rfl rfl (by kernel_rfl) (by kernel_rfl) (fun K hK => ?_) ?_
            · go_simp
              refine (iown_c _ ((to4 (by assumption)).in_ jb) (by omega)).mono ?_
              rintro e w8 ⟨Ay, cy, rfl, hr, ho, hl, hw⟩
              have Vy : OwnV w8 _ Ay nb cy lb := ⟨hr, ho, hl⟩
              clear hr ho hl
              have yyG1 := Vy.own.away_old TG1
              have yyG2 := Vy.own.away_old TG2
              replace Vy := Vy.base (B' := w.heap.size + 2) HZ
              refine hK.out _ _ (keep4 (by assumption) hw) (fun hV8 => ?_)
              clear hK K
              try simp only [Act.put, List.setIfInBounds_toArray, List.set_cons_zero, List.set_cons_succ]
              replace Vx := Vx.below hw
              replace BG1 := BG1.below hw
              replace TG1 := Nat.lt_of_lt_of_le TG1 hw.size
              replace BG2 := BG2.below hw
              replace TG2 := Nat.lt_of_lt_of_le TG2 hw.size
              replace HZ := Nat.le_trans HZ hw.size
              replace BB := below_step BB hw
              clear hw
              obtain ⟨⟨_, k0, f0⟩, ⟨_, k1, f1⟩⟩ := BG1.two
              refine wpAnyW_oneT (i := 6) (L := #[true, true, true, true, true, true, true, false]) (by kernel_rfl) rfl rfl (by kernel_rfl) (by kernel_rfl) (fun K hK => ?_)
              go_simp
              refine hK.out _ _ ?_
              clear hK K
              try simp only [Act.put, List.setIfInBounds_toArray, List.set_cons_zero, List.set_cons_succ]
              have hp := Put.set2 w8 G1 (.bool sa) (.slice (some Ax) na cx)
              obtain ⟨cG1_0, cG1_1⟩ := put2_cells BG1 (.bool sa) (.slice (some Ax) na cx)
              clear k0 f0 k1 f1
              obtain ⟨w9, hn⟩ : ∃ w9, w9 = ((w8.setCell ⟨G1, 0, none⟩ (.bool sa)).setCell ⟨G1, 1, none⟩ (.slice (some Ax) na cx)) := ⟨_, rfl⟩
              rw [← hn] at hp cG1_0 cG1_1
              rw [← hn]
              clear hn
              replace BG2 := BG2.put hp eG2G1
              replace Vx := Vx.put hp yxG1
              replace Vy := Vy.put hp yyG1
              replace BB := hp.bel _ _ qG1 BB
              clear hp
              obtain ⟨⟨_, k0, f0⟩, ⟨_, k1, f1⟩⟩ := BG2.two
              refine wpAnyW_oneT (i := 7) (L := #[true, true, true, true, true, true, true, true]) (by kernel_rfl) rfl rfl (by kernel_rfl) (by kernel_rfl) (fun K hK => ?_)
              go_simp
              refine hK.out _ _ ?_
              clear hK K
              try simp only [Act.put, List.setIfInBounds_toArray, List.set_cons_zero, List.set_cons_succ]
              have hp := Put.set2 w9 G2 (.bool sb) (.slice (some Ay) nb cy)
              obtain ⟨cG2_0, cG2_1⟩ := put2_cells BG2 (.bool sb) (.slice (some Ay) nb cy)
              clear k0 f0 k1 f1
              obtain ⟨w10, hn⟩ : ∃ w10, w10 = ((w9.setCell ⟨G2, 0, none⟩ (.bool sb)).setCell ⟨G2, 1, none⟩ (.slice (some Ay) nb cy)) := ⟨_, rfl⟩
              rw [← hn] at hp cG2_0 cG2_1
              rw [← hn]
              clear hn
              replace cG1_0 := (hp.cell eG1G2).trans cG1_0
              replace cG1_1 := (hp.cell eG1G2).trans cG1_1
              replace Vx := Vx.put hp yxG2
              replace Vy := Vy.put hp yyG2
              replace BB := hp.bel _ _ qG2 BB
              clear hp
              refine wpAnyW_done (by kernel_rfl) ?_ _
              refine NoPanic.normal ?_
              go_wp2_with fail
              go_meet
              exact ⟨G1, G2, Ax, cx, Ay, cy, rfl, rfl, BB, ZG1, cG1_0, cG1_1, ZG2, cG2_0, cG2_1, Vx, Vy⟩
            exact AllReadyW.nil
          exact AllReadyW.nil
        exact AllReadyW.nil
      refine AllReadyW.consL (i := 5) (L := #[true, false, true, false, false, true, false, false]) rfl rfl (by kernel_rfl) (by kernel_rfl) (fun K hK => ?_) ?_
      · go_simp
        have hw := below_new w4 (.cells #[.bool false, .slice none 0 0] 24)
        have hV4a := keep4 (by assumption) hw
        refine hK.out _ _ hV4a (fun _ => ?_)
        clear hK K
        try simp only [Act.put, List.setIfInBounds_toArray, List.set_cons_zero, List.set_cons_succ]
        obtain ⟨G2, hg⟩ : ∃ G2, G2 = w4.heap.size := ⟨_, rfl⟩
        have BG2 := Bw.of_blk (Blk.new w4 24 #[.bool false, .slice none 0 0]) rfl
        have ZG2 := HZ
        have qG2 := BB.size
        have TG2 : w4.heap.size < (w4.alloc (.cells #[.bool false, .slice none 0 0] 24)).heap.size := by simp
        try dsimp only [List.size_toArray, List.length_cons, List.length_nil] at BG2
        replace HZ := Nat.le_trans HZ hw.size
        replace BB := below_step BB hw
        rw [← hg] at BG2 ZG2 TG2 qG2
        rw [← hg]
        clear hg hw
        obtain ⟨w5, hn⟩ : ∃ w5, w5 = w4.alloc (.cells #[.bool false, .slice none 0 0] 24) := ⟨_, rfl⟩
        rw [← hn] at hV4a HZ BB BG2 TG2
        rw [← hn]
        clear hn
        refine wpAnyW_ready (rs := [1, 4]) (by kernel_rfl) (by simp) ?_
        refine AllReadyW.consL (i := 1) (L := #[true, true, true, false, false, true, false, false]) rfl rfl (by kernel_rfl) (by kernel_rfl) (fun K hK => ?_) ?_
        · go_simp
          refine (iown_c _ ((to4 (by assumption)).in_ ja) (by omega)).mono ?_
          rintro e w6 ⟨Ax, cx, rfl, hr, ho, hl, hw⟩
          have Vx : OwnV w6 _ Ax na cx la := ⟨hr, ho, hl⟩
          clear hr ho hl
          have yxG2 := Vx.own.away_old TG2
          replace Vx := Vx.base (B' := w.heap.size + 2) HZ
          refine hK.out _ _ (keep4 (by assumption) hw) (fun hV6 => ?_)
          clear hK K
          try simp only [Act.put, List.setIfInBounds_toArray, List.set_cons_zero, List.set_cons_succ]
          replace BG2 := BG2.below hw
          replace TG2 := Nat.lt_of_lt_of_le TG2 hw.size
          replace HZ := Nat.le_trans HZ hw.size
          replace BB := below_step BB hw
          clear hw
          refine wpAnyW_ready (rs := [3, 4]) (by kernel_rfl) (by simp) ?_
          refine AllReadyW.consL (i := 3) (L := #[true, true, true, true, false, true, false, false]) rfl rfl (by kernel_rfl) (by kernel_rfl) (fun K hK => ?_) ?_
          · go_simp
            refine (iown_c _ ((to4 (by assumption)).in_ jb) (by omega)).mono ?_
            rintro e w7 ⟨Ay, cy, rfl, hr, ho, hl, hw⟩
            have Vy : OwnV w7 _ Ay nb cy lb := ⟨hr, ho, hl⟩
            clear hr ho hl
            have yyG2 := Vy.own.away_old TG2
            replace Vy := Vy.base (B' := w.heap.size + 2) HZ
            refine hK.out _ _ (keep4 (by assumption) hw) (fun hV7 => ?_)
            clear hK K
            try simp only [Act.put, List.setIfInBounds_toArray, List.set_cons_zero, List.set_cons_succ]
            replace Vx := Vx.below hw
            replace BG2 := BG2.below hw
            replace TG2 := Nat.lt_of_lt_of_le TG2 hw.size
            replace HZ := Nat.le_trans HZ hw.size
            replace BB := below_step BB hw
            clear hw
            refine wpAnyW_ready (rs := [4]) (by kernel_rfl) (by simp) ?_
            refine AllReadyW.consL (i := 4) (L := #[true, true, true, true, true, true, false, false]) rfl rfl (by kernel_rfl) (by kernel_rfl) (fun K hK => ?_) ?_
            · go_simp
              have hw := below_new w7 (.cells #[.bool false, .slice none 0 0] 24)
              have hV7a := keep4 (by assumption) hw
              refine hK.out _ _ hV7a (fun _ => ?_)
              clear hK K
              try simp only [Act.put, List.setIfInBounds_toArray, List.set_cons_zero, List.set_cons_succ]
              obtain ⟨G1, hg⟩ : ∃ G1, G1 = w7.heap.size := ⟨_, rfl⟩
              have BG1 := Bw.of_blk (Blk.new w7 24 #[.bool false, .slice none 0 0]) rfl
              have ZG1 := HZ
              have qG1 := BB.size
              have TG1 : w7.heap.size < (w7.alloc (.cells #[.bool false, .slice none 0 0] 24)).heap.size := by simp
              try dsimp only [List.size_toArray, List.length_cons, List.length_nil] at BG1
              have yxG1 := Vx.own.away_new (Nat.le_refl _)
              have yyG1 := Vy.own.away_new (Nat.le_refl _)
              have eG2G1 : G2 ≠ w7.heap.size := Nat.ne_of_lt TG2
              have eG1G2 := eG2G1.symm
              replace Vx := Vx.below hw
              replace Vy := Vy.below hw
              replace BG2 := BG2.below hw
              replace TG2 := Nat.lt_of_lt_of_le TG2 hw.size
              replace HZ := Nat.le_trans HZ hw.size
              replace BB := below_step BB hw
              rw [← hg] at BG1 ZG1 TG1 qG1 yxG1 yyG1 eG2G1 eG1G2
              rw [← hg]
              clear hg hw
              obtain ⟨w8, hn⟩ : ∃ w8, w8 = w7.alloc (.cells #[.bool false, .slice none 0 0] 24) := ⟨_, rfl⟩
              rw [← hn] at hV7a HZ BB Vx Vy BG2 TG2 BG1 TG1
              rw [← hn]
              clear hn
              obtain ⟨⟨_, k0, f0⟩, ⟨_, k1, f1⟩⟩ := BG1.two
              refine wpAnyW_oneT (i := 6) (L := #[true, true, true, true, true, true, true, false]) (by kernel_rfl) rfl rfl (by kernel_rfl) (by kernel_rfl) (fun K hK => ?_)
              go_simp
              refine hK.out _ _ ?_
              clear hK K
              try simp only [Act.put, List.setIfInBounds_toArray, List.set_cons_zero, List.set_cons_succ]
              have hp := Put.set2 w8 G1 (.bool sa) (.slice (some Ax) na cx)
              obtain ⟨cG1_0, cG1_1⟩ := put2_cells BG1 (.bool sa) (.slice (some Ax) na cx)
              clear k0 f0 k1 f1
              obtain ⟨w9, hn⟩ : ∃ w9, w9 = ((w8.setCell ⟨G1, 0, none⟩ (.bool sa)).setCell ⟨G1, 1, none⟩ (.slice (some Ax) na cx)) := ⟨_, rfl⟩
              rw [← hn] at hp cG1_0 cG1_1
              rw [← hn]
              clear hn
              replace BG2 := BG2.put hp eG2G1
              replace Vx := Vx.put hp yxG1
              replace Vy := Vy.put hp yyG1
              replace BB := hp.bel _ _ qG1 BB
              clear hp
              obtain ⟨⟨_, k0, f0⟩, ⟨_, k1, f1⟩⟩ := BG2.two
              refine wpAnyW_oneT (i := 7) (L := #[true, true, true, true, true, true, true, true]) (by kernel_rfl) rfl rfl (by kernel_rfl) (by kernel_rfl) (fun K hK => ?_)
              go_simp
              refine hK.out _ _ ?_
              clear hK K
              try simp only [Act.put, List.setIfInBounds_toArray, List.set_cons_zero, List.set_cons_succ]
              have hp := Put.set2 w9 G2 (.bool sb) (.slice (some Ay) nb cy)
              obtain ⟨cG2_0, cG2_1⟩ := put2_cells BG2 (.bool sb) (.slice (some Ay) nb cy)
              clear k0 f0 k1 f1
              obtain ⟨w10, hn⟩ : ∃ w10, w10 = ((w9.setCell ⟨G2, 0, none⟩ (.bool sb)).setCell ⟨G2, 1, none⟩ (.slice (some Ay) nb cy)) := ⟨_, rfl⟩
              rw [← hn] at hp cG2_0 cG2_1
              rw [← hn]
              clear hn
              replace cG1_0 := (hp.cell eG1G2).trans cG1_0
              replace cG1_1 := (hp.cell eG1G2).trans cG1_1
              replace Vx := Vx.put hp yxG2
              replace Vy := Vy.put hp yyG2
              replace BB := hp.bel _ _ qG2 BB
              clear hp
              refine wpAnyW_done (by kernel_rfl) ?_ _
              refine NoPanic.normal ?_
              go_wp2_with fail
              go_meet
              exact ⟨G1, G2, Ax, cx, Ay, cy, rfl, rfl, BB, ZG1, cG1_0, cG1_1, ZG2, cG2_0, cG2_1, Vx, Vy⟩
            exact AllReadyW.nil
          refine AllReadyW.consL (i := 4) (L := #[true, true, true, false, true, true, false, false]) rfl rfl (by kernel_rfl) (by kernel_rfl) (fun K hK => ?_) ?_
          · go_simp
            have hw := below_new w6 (.cells #[.bool false, .slice none 0 0] 24)
            have hV6a := keep4 (by assumption) hw
            refine hK.out _ _ hV6a (fun _ => ?_)
            clear hK K
            try simp only [Act.put, List.setIfInBounds_toArray, List.set_cons_zero, List.set_cons_succ]
            obtain ⟨G1, hg⟩ : ∃ G1, G1 = w6.heap.size := ⟨_, rfl⟩
            have BG1 := Bw.of_blk (Blk.new w6 24 #[.bool false, .slice none 0 0]) rfl
            have ZG1 := HZ
            have qG1 := BB.size
            have TG1 : w6.heap.size < (w6.alloc (.cells #[.bool false, .slice none 0 0] 24)).heap.size := by simp
            try dsimp only [List.size_toArray, List.length_cons, List.length_nil] at BG1
            have yxG1 := Vx.own.away_new (Nat.le_refl _)
            have eG2G1 : G2 ≠ w6.heap.size := Nat.ne_of_lt TG2
            have eG1G2 := eG2G1.symm
            replace Vx := Vx.below hw
            replace BG2 := BG2.below hw
            replace TG2 := Nat.lt_of_lt_of_le TG2 hw.size
            replace HZ := Nat.le_trans HZ hw.size
            replace BB := below_step BB hw
            rw [← hg] at BG1 ZG1 TG1 qG1 yxG1 eG2G1 eG1G2
            rw [← hg]
            clear hg hw
            obtain ⟨w7, hn⟩ : ∃ w7, w7 = w6.alloc (.cells #[.bool false, .slice none 0 0] 24) := ⟨_, rfl⟩
            rw [← hn] at hV6a HZ BB Vx BG2 TG2 BG1 TG1
            rw [← hn]
            clear hn
            refine wpAnyW_ready (rs := [3]) (by kernel_rfl) (by simp) ?_
            refine AllReadyW.consL (i := 3) (L := #[true, true, true, true, true, true, false, false]) rfl rfl (by kernel_rfl) (by kernel_rfl) (fun K hK => ?_) ?_
            · go_simp
              refine (iown_c _ ((to4 (by assumption)).in_ jb) (by omega)).mono ?_
              rintro e w8 ⟨Ay, cy, rfl, hr, ho, hl, hw⟩
              have Vy : OwnV w8 _ Ay nb cy lb := ⟨hr, ho, hl⟩
              clear hr ho hl
              have yyG2 := Vy.own.away_old TG2
              have yyG1 := Vy.own.away_old TG1
              replace Vy := Vy.base (B' := w.heap.size + 2) HZ
              refine hK.out _ _ (keep4 (by assumption) hw) (fun hV8 => ?_)
              clear hK K
              try simp only [Act.put, List.setIfInBounds_toArray, List.set_cons_zero, List.set_cons_succ]
              replace Vx := Vx.below hw
              replace BG2 := BG2.below hw
              replace TG2 := Nat.lt_of_lt_of_le TG2 hw.size
              replace BG1 := BG1.below hw
              replace TG1 := Nat.lt_of_lt_of_le TG1 hw.size
              replace HZ := Nat.le_trans HZ hw.size
              replace BB := below_step BB hw
              clear hw
              obtain ⟨⟨_, k0, f0⟩, ⟨_, k1, f1⟩⟩ := BG1.two
              refine wpAnyW_oneT (i := 6) (L := #[true, true, true, true, true, true, true, false]) (by kernel_rfl) rfl rfl (by kernel_rfl) (by kernel_rfl) (fun K hK => ?_)
              go_simp
              refine hK.out _ _ ?_
              clear hK K
              try simp only [Act.put, List.setIfInBounds_toArray, List.set_cons_zero, List.set_cons_succ]
              have hp := Put.set2 w8 G1 (.bool sa) (.slice (some Ax) na cx)
              obtain ⟨cG1_0, cG1_1⟩ := put2_cells BG1 (.bool sa) (.slice (some Ax) na cx)
              clear k0 f0 k1 f1
              obtain ⟨w9, hn⟩ : ∃ w9, w9 = ((w8.setCell ⟨G1, 0, none⟩ (.bool sa)).setCell ⟨G1, 1, none⟩ (.slice (some Ax) na cx)) := ⟨_, rfl⟩
              rw [← hn] at hp cG1_0 cG1_1
              rw [← hn]
              clear hn
              replace BG2 := BG2.put hp eG2G1
              replace Vx := Vx.put hp yxG1
              replace Vy := Vy.put hp yyG1
              replace BB := hp.bel _ _ qG1 BB
              clear hp
              obtain ⟨⟨_, k0, f0⟩, ⟨_, k1, f1⟩⟩ := BG2.two
              refine wpAnyW_oneT (i := 7) (L := #[true, true, true, true, true, true, true, true]) (by kernel_rfl) rfl rfl (by kernel_rfl) (by kernel_rfl) (fun K hK => ?_)
              go_simp
              refine hK.out _ _ ?_
              clear hK K
              try simp only [Act.put, List.setIfInBounds_toArray, List.set_cons_zero, List.set_cons_succ]
              have hp := Put.set2 w9 G2 (.bool sb) (.slice (some Ay) nb cy)
              obtain ⟨cG2_0, cG2_1⟩ := put2_cells BG2 (.bool sb) (.slice (some Ay) nb cy)
              clear k0 f0 k1 f1
              obtain ⟨w10, hn⟩ : ∃ w10, w10 = ((w9.setCell ⟨G2, 0, none⟩ (.bool sb)).setCell ⟨G2, 1, none⟩ (.slice (some Ay) nb cy)) := ⟨_, rfl⟩
              rw [← hn] at hp cG2_0 cG2_1
              rw [← hn]
              clear hn
              replace cG1_0 := (hp.cell eG1G2).trans cG1_0
              replace cG1_1 := (hp.cell eG1G2).trans cG1_1
              replace Vx := Vx.put hp yxG2
              replace Vy := Vy.put hp yyG2
              replace BB := hp.bel _ _ qG2 BB
              clear hp
              refine wpAnyW_done (by kernel_rfl) ?_ _
              refine NoPanic.normal ?_
              go_wp2_with fail
              go_meet
              exact ⟨G1, G2, Ax, cx, Ay, cy, rfl, rfl, BB, ZG1, cG1_0, cG1_1, ZG2, cG2_0, cG2_1, Vx, Vy⟩
            exact AllReadyW.nil
          exact AllReadyW.nil
        refine AllReadyW.consL (i := 4) (L := #[true, false, true, false, true, true, false, false]) rfl rfl (by kernel_rfl) (by kernel_rfl) (fun K hK => ?_) ?_
        · go_simp
          have hw := below_new w5 (.cells #[.bool false, .slice none 0 0] 24)
          have hV5a := keep4 (by assumption) hw
          refine hK.out _ _ hV5a (fun _ => ?_)
          clear hK K
          try simp only [Act.put, List.setIfInBounds_toArray, List.set_cons_zero, List.set_cons_succ]
          obtain ⟨G1, hg⟩ : ∃ G1, G1 = w5.heap.size := ⟨_, rfl⟩
          have BG1 := Bw.of_blk (Blk.new w5 24 #[.bool false, .slice none 0 0]) rfl
          have ZG1 := HZ
          have qG1 := BB.size
          have TG1 : w5.heap.size < (w5.alloc (.cells #[.bool false, .slice none 0 0] 24)).heap.size := by simp
          try dsimp only [List.size_toArray, List.length_cons, List.length_nil] at BG1
          have eG2G1 : G2 ≠ w5.heap.size := Nat.ne_of_lt TG2
          have eG1G2 := eG2G1.symm
          replace BG2 := BG2.below hw
          replace TG2 := Nat.lt_of_lt_of_le TG2 hw.size
          replace HZ := Nat.le_trans HZ hw.size
          replace BB := below_step BB hw
          rw [← hg] at BG1 ZG1 TG1 qG1 eG2G1 eG1G2
          rw [← hg]
          clear hg hw
          obtain ⟨w6, hn⟩ : ∃ w6, w6 = w5.alloc (.cells #[.bool false, .slice none 0 0] 24) := ⟨_, rfl⟩
          rw [← hn] at hV5a HZ BB BG2 TG2 BG1 TG1
          rw [← hn]
          clear hn
          refine wpAnyW_ready (rs := [1]) (by kernel_rfl) (by simp) ?_
          refine AllReadyW.consL (i := 1) (L := #[true, true, true, false, true, true, false, false]) rfl rfl (by kernel_rfl) (by kernel_rfl) (fun K hK => ?_) ?_
          · go_simp
            refine (iown_c _ ((to4 (by assumption)).in_ ja) (by omega)).mono ?_
            rintro e w7 ⟨Ax, cx, rfl, hr, ho, hl, hw⟩
            have Vx : OwnV w7 _ Ax na cx la := ⟨hr, ho, hl⟩
            clear hr ho hl
            have yxG2 := Vx.own.away_old TG2
            have yxG1 := Vx.own.away_old TG1
            replace Vx := Vx.base (B' := w.heap.size + 2) HZ
            refine hK.out _ _ (keep4 (by assumption) hw) (fun hV7 => ?_)
            clear hK K
            try simp only [Act.put, List.setIfInBounds_toArray, List.set_cons_zero, List.set_cons_succ]
            replace BG2 := BG2.below hw
            replace TG2 := Nat.lt_of_lt_of_le TG2 hw.size
            replace BG1 := BG1.below hw
            replace TG1 := Nat.lt_of_lt_of_le TG1 hw.size
            replace HZ := Nat.le_trans HZ hw.size
            replace BB := below_step BB hw
            clear hw
            refine wpAnyW_ready (rs := [3]) (by kernel_rfl) (by simp) ?_
            refine AllReadyW.consL (i := 3) (L := #[true, true, true, true, true, true, false, false]) rfl rfl (by kernel_rfl) (by kernel_rfl) (fun K hK => ?_) ?_
            · go_simp
              refine (iown_c _ ((to4 (by assumption)).in_ jb) (by omega)).mono ?_
              rintro e w8 ⟨Ay, cy, rfl, hr, ho, hl, hw⟩
              have Vy : OwnV w8 _ Ay nb cy lb := ⟨hr, ho, hl⟩
              clear hr ho hl
              have yyG2 := Vy.own.away_old TG2
              have yyG1 := Vy.own.away_old TG1
              replace Vy := Vy.base (B' := w.heap.size + 2) HZ
              refine hK.out _ _ (keep4 (by assumption) hw) (fun hV8 => ?_)
              clear hK K
              try simp only [Act.put, List.setIfInBounds_toArray, List.set_cons_zero, List.set_cons_succ]
              replace Vx := Vx.below hw
              replace BG2 := BG2.below hw
              replace TG2 := Nat.lt_of_lt_of_le TG2 hw.size
              replace BG1 := BG1.below hw
              replace TG1 := Nat.lt_of_lt_of_le TG1 hw.size
              replace HZ := Nat.le_trans HZ hw.size
              replace BB := below_step BB hw
              clear hw
              obtain ⟨⟨_, k0, f0⟩, ⟨_, k1, f1⟩⟩ := BG1.two
              refine wpAnyW_oneT (i := 6) (L := #[true, true, true, true, true, true, true, false]) (by kernel_rfl) rfl rfl (by kernel_rfl) (by kernel_rfl) (fun K hK => ?_)
              go_simp
              refine hK.out _ _ ?_
              clear hK K
              try simp only [Act.put, List.setIfInBounds_toArray, List.set_cons_zero, List.set_cons_succ]
              have hp := Put.set2 w8 G1 (.bool sa) (.slice (some Ax) na cx)
              obtain ⟨cG1_0, cG1_1⟩ := put2_cells BG1 (.bool sa) (.slice (some Ax) na cx)
              clear k0 f0 k1 f1
              obtain ⟨w9, hn⟩ : ∃ w9, w9 = ((w8.setCell ⟨G1, 0, none⟩ (.bool sa)).setCell ⟨G1, 1, none⟩ (.slice (some Ax) na cx)) := ⟨_, rfl⟩
              rw [← hn] at hp cG1_0 cG1_1
              rw [← hn]
              clear hn
              replace BG2 := BG2.put hp eG2G1
              replace Vx := Vx.put hp yxG1
              replace Vy := Vy.put hp yyG1
              replace BB := hp.bel _ _ qG1 BB
              clear hp
              obtain ⟨⟨_, k0, f0⟩, ⟨_, k1, f1⟩⟩ := BG2.two
              refine wpAnyW_oneT (i := 7) (L := #[true, true, true, true, true, true, true, true]) (by kernel_rfl) rfl rfl (by kernel_rfl) (by kernel_rfl) (fun K hK => ?_)
              go_simp
              refine hK.out _ _ ?_
              clear hK K
              try simp only [Act.put, List.setIfInBounds_toArray, List.set_cons_zero, List.set_cons_succ]
              have hp := Put.set2 w9 G2 (.bool sb) (.slice (some Ay) nb cy)
              obtain ⟨cG2_0, cG2_1⟩ := put2_cells BG2 (.bool sb) (.slice (some Ay) nb cy)
              clear k0 f0 k1 f1
              obtain ⟨w10, hn⟩ : ∃ w10, w10 = ((w9.setCell ⟨G2, 0, none⟩ (.bool sb)).setCell ⟨G2, 1, none⟩ (.slice (some Ay) nb cy)) := ⟨_, rfl⟩
              rw [← hn] at hp cG2_0 cG2_1
              rw [← hn]
              clear hn
              replace cG1_0 := (hp.cell eG1G2).trans cG1_0
              replace cG1_1 := (hp.cell eG1G2).trans cG1_1
              replace Vx := Vx.put hp yxG2
              replace Vy := Vy.put hp yyG2
              replace BB := hp.bel _ _ qG2 BB
              clear hp
              refine wpAnyW_done (by kernel_rfl) ?_ _
              refine NoPanic.normal ?_
              go_wp2_with fail
              go_meet
              exact ⟨G1, G2, Ax, cx, Ay, cy, rfl, rfl, BB, ZG1, cG1_0, cG1_1, ZG2, cG2_0, cG2_1, Vx, Vy⟩
            exact AllReadyW.nil
          exact AllReadyW.nil
        exact AllReadyW.nil
      exact AllReadyW.nil
    case rest =>
      obtain ⟨G1, G2, Ax, cx, Ay, cy, rfl, rfl, hw, ZG1, cG1_0, cG1_1, ZG2, cG2_0, cG2_1, Vx, Vy⟩ := hcut
      replace c0_0 := keepc hw c0_0
      replace c0_1 := keepc hw c0_1
      replace c1_0 := keepc hw c1_0
      replace c1_1 := keepc hw c1_1
      replace FR := hide ((unhide FR).below hw)
      replace HZ := Nat.le_trans HZ hw.size
      clear hw
      obtain ⟨w64, hn⟩ : ∃ w64, w64 = wc := ⟨_, rfl⟩
      have ix : II wc (sa) (some Ax) na cx la xa 40 := ⟨Vx.own.toIn, ia.2, ia.3⟩
      have iy : II wc (sb) (some Ay) nb cy lb xb 40 := ⟨Vy.own.toIn, ib.2, ib.3⟩
      rw [← hn] at c0_0 c0_1 c1_0 c1_1 cG1_0 cG1_1 cG2_0 cG2_1 FR HZ Vx ix Vy iy
      rw [← hn]
      clear hn
      go_wp2_with fail
      refine (idivmod_v _ ix iy (by omega)).mono ?_
      rintro e w65 ⟨Ac, nc, cc, lc, Ad, nd, cd, ld, rfl, Nc, Oc, ic, Nd, Od, id, hw⟩
      replace Oc := Oc.base (B' := w.heap.size + 2) HZ
      replace Od := Od.base (B' := w.heap.size + 2) HZ
      replace c0_0 := keepc hw c0_0
      replace c0_1 := keepc hw c0_1
      replace c1_0 := keepc hw c1_0
      replace c1_1 := keepc hw c1_1
      replace cG1_0 := keepc hw cG1_0
      replace cG1_1 := keepc hw cG1_1
      replace cG2_0 := keepc hw cG2_0
      replace cG2_1 := keepc hw cG2_1
      replace FR := hide ((unhide FR).below hw)
      replace Vx := Vx.below hw
      replace ix := ix.below hw
      replace Vy := Vy.below hw
      replace iy := iy.below hw
      replace HZ := Nat.le_trans HZ hw.size
      clear hw
      have kG := Blk.new w65 24 #[.bool (decide (quoI xa xb < 0)), .slice Ac nc cc]
      have zG3 := HZ
      have hnew := below_new w65 (.cells #[.bool (decide (quoI xa xb < 0)), .slice Ac nc cc] 24)
      replace c0_0 := keepc hnew c0_0
      replace c0_1 := keepc hnew c0_1
      replace c1_0 := keepc hnew c1_0
      replace c1_1 := keepc hnew c1_1
      replace cG1_0 := keepc hnew cG1_0
      replace cG1_1 := keepc hnew cG1_1
      replace cG2_0 := keepc hnew cG2_0
      replace cG2_1 := keepc hnew cG2_1
      replace FR := hide ((unhide FR).below hnew)
      replace Vx := Vx.below hnew
      replace ix := ix.below hnew
      replace Vy := Vy.below hnew
      replace iy := iy.below hnew
      replace Oc := Oc.below hnew
      replace ic := ic.below hnew
      replace Od := Od.below hnew
      replace id := id.below hnew
      replace HZ := Nat.le_trans HZ hnew.size
      have cG3_0 := kG.cell 0
      have cG3_1 := kG.cell 1
      clear hnew kG
      have kG := Blk.new (w65.alloc (.cells #[.bool (decide (quoI xa xb < 0)), .slice Ac nc cc] 24)) 24 #[.bool (decide (remI xa xb < 0)), .slice Ad nd cd]
      have zG4 := HZ
      have hnew := below_new (w65.alloc (.cells #[.bool (decide (quoI xa xb < 0)), .slice Ac nc cc] 24)) (.cells #[.bool (decide (remI xa xb < 0)), .slice Ad nd cd] 24)
      replace c0_0 := keepc hnew c0_0
      replace c0_1 := keepc hnew c0_1
      replace c1_0 := keepc hnew c1_0
      replace c1_1 := keepc hnew c1_1
      replace cG1_0 := keepc hnew cG1_0
      replace cG1_1 := keepc hnew cG1_1
      replace cG2_0 := keepc hnew cG2_0
      replace cG2_1 := keepc hnew cG2_1
      replace cG3_0 := keepc hnew cG3_0
      replace cG3_1 := keepc hnew cG3_1
      replace FR := hide ((unhide FR).below hnew)
      replace Vx := Vx.below hnew
      replace ix := ix.below hnew
      replace Vy := Vy.below hnew
      replace iy := iy.below hnew
      replace Oc := Oc.below hnew
      replace ic := ic.below hnew
      replace Od := Od.below hnew
      replace id := id.below hnew
      replace HZ := Nat.le_trans HZ hnew.size
      have cG4_0 := kG.cell 0
      have cG4_1 := kG.cell 1
      clear hnew kG
      go_wp2_with fail
      obtain ⟨w66, hn⟩ : ∃ w66, w66 = ((w65.alloc (.cells #[.bool (decide (quoI xa xb < 0)), .slice Ac nc cc] 24)).alloc (.cells #[.bool (decide (remI xa xb < 0)), .slice Ad nd cd] 24)) := ⟨_, rfl⟩
      rw [← hn] at c0_0 c0_1 c1_0 c1_1 cG1_0 cG1_1 cG2_0 cG2_1 cG3_0 cG3_1 cG4_0 cG4_1 FR HZ Vx ix Vy iy Oc ic Od id
      rw [← hn]
      clear hn
      obtain ⟨G3, hgG3⟩ : ∃ G3, G3 = w65.heap.size := ⟨_, rfl⟩
      rw [show ((w65.alloc (.cells #[.bool (decide (quoI xa xb < 0)), .slice Ac nc cc] 24))).heap.size = w65.heap.size + 1 by simp] at cG4_0 cG4_1 zG4
      obtain ⟨G4, hgG4⟩ : ∃ G4, G4 = w65.heap.size + 1 := ⟨_, rfl⟩
      rw [← hgG4] at cG4_0 cG4_1 zG4
      rw [← hgG4]
      clear hgG4 zG4
      rw [← hgG3] at cG3_0 cG3_1 zG3
      rw [← hgG3]
      clear hgG3 zG3
      go_wp2_with fail
      refine (rdivmod_c _ ((unhide FR).ii ia) ((unhide FR).ii ib) (by omega)).mono ?_
      rintro e w67 ⟨Ah, nh, ch, lh, Ak, nk, ck, lk, rfl, Nh, Oh, ih, Nk, Ok, ik, hw⟩
      replace Oh := Oh.base (B' := w.heap.size + 2) HZ
      replace Ok := Ok.base (B' := w.heap.size + 2) HZ
      replace c0_0 := keepc hw c0_0
      replace c0_1 := keepc hw c0_1
      replace c1_0 := keepc hw c1_0
      replace c1_1 := keepc hw c1_1
      replace cG1_0 := keepc hw cG1_0
      replace cG1_1 := keepc hw cG1_1
      replace cG2_0 := keepc hw cG2_0
      replace cG2_1 := keepc hw cG2_1
      replace cG3_0 := keepc hw cG3_0
      replace cG3_1 := keepc hw cG3_1
      replace cG4_0 := keepc hw cG4_0
      replace cG4_1 := keepc hw cG4_1
      replace FR := hide ((unhide FR).below hw)
      replace Vx := Vx.below hw
      replace ix := ix.below hw
      replace Vy := Vy.below hw
      replace iy := iy.below hw
      replace Oc := Oc.below hw
      replace ic := ic.below hw
      replace Od := Od.below hw
      replace id := id.below hw
      replace HZ := Nat.le_trans HZ hw.size
      clear hw
      have kG := Blk.new w67 24 #[.bool (decide (quoI xa xb < 0)), .slice Ah nh ch]
      have zG5 := HZ
      have hnew := below_new w67 (.cells #[.bool (decide (quoI xa xb < 0)), .slice Ah nh ch] 24)
      replace c0_0 := keepc hnew c0_0
      replace c0_1 := keepc hnew c0_1
      replace c1_0 := keepc hnew c1_0
      replace c1_1 := keepc hnew c1_1
      replace cG1_0 := keepc hnew cG1_0
      replace cG1_1 := keepc hnew cG1_1
      replace cG2_0 := keepc hnew cG2_0
      replace cG2_1 := keepc hnew cG2_1
      replace cG3_0 := keepc hnew cG3_0
      replace cG3_1 := keepc hnew cG3_1
      replace cG4_0 := keepc hnew cG4_0
      replace cG4_1 := keepc hnew cG4_1
      replace FR := hide ((unhide FR).below hnew)
      replace Vx := Vx.below hnew
      replace ix := ix.below hnew
      replace Vy := Vy.below hnew
      replace iy := iy.below hnew
      replace Oc := Oc.below hnew
      replace ic := ic.below hnew
      replace Od := Od.below hnew
      replace id := id.below hnew
      replace Oh := Oh.below hnew
      replace ih := ih.below hnew
      replace Ok := Ok.below hnew
      replace ik := ik.below hnew
      replace HZ := Nat.le_trans HZ hnew.size
      have cG5_0 := kG.cell 0
      have cG5_1 := kG.cell 1
      clear hnew kG
      have kG := Blk.new (w67.alloc (.cells #[.bool (decide (quoI xa xb < 0)), .slice Ah nh ch] 24)) 24 #[.bool (decide (remI xa xb < 0)), .slice Ak nk ck]
      have zG6 := HZ
      have hnew := below_new (w67.alloc (.cells #[.bool (decide (quoI xa xb < 0)), .slice Ah nh ch] 24)) (.cells #[.bool (decide (remI xa xb < 0)), .slice Ak nk ck] 24)
      replace c0_0 := keepc hnew c0_0
      replace c0_1 := keepc hnew c0_1
      replace c1_0 := keepc hnew c1_0
      replace c1_1 := keepc hnew c1_1
      replace cG1_0 := keepc hnew cG1_0
      replace cG1_1 := keepc hnew cG1_1
      replace cG2_0 := keepc hnew cG2_0
      replace cG2_1 := keepc hnew cG2_1
      replace cG3_0 := keepc hnew cG3_0
      replace cG3_1 := keepc hnew cG3_1
      replace cG4_0 := keepc hnew cG4_0
      replace cG4_1 := keepc hnew cG4_1
      replace cG5_0 := keepc hnew cG5_0
      replace cG5_1 := keepc hnew cG5_1
      replace FR := hide ((unhide FR).below hnew)
      replace Vx := Vx.below hnew
      replace ix := ix.below hnew
      replace Vy := Vy.below hnew
      replace iy := iy.below hnew
      replace Oc := Oc.below hnew
      replace ic := ic.below hnew
      replace Od := Od.below hnew
      replace id := id.below hnew
      replace Oh := Oh.below hnew
      replace ih := ih.below hnew
      replace Ok := Ok.below hnew
      replace ik := ik.below hnew
      replace HZ := Nat.le_trans HZ hnew.size
      have cG6_0 := kG.cell 0
      have cG6_1 := kG.cell 1
      clear hnew kG
      go_wp2_with fail
      obtain ⟨w68, hn⟩ : ∃ w68, w68 = ((w67.alloc (.cells #[.bool (decide (quoI xa xb < 0)), .slice Ah nh ch] 24)).alloc (.cells #[.bool (decide (remI xa xb < 0)), .slice Ak nk ck] 24)) := ⟨_, rfl⟩
      rw [← hn] at c0_0 c0_1 c1_0 c1_1 cG1_0 cG1_1 cG2_0 cG2_1 cG3_0 cG3_1 cG4_0 cG4_1 cG5_0 cG5_1 cG6_0 cG6_1 FR HZ Vx ix Vy iy Oc ic Od id Oh ih Ok ik
      rw [← hn]
      clear hn
      obtain ⟨G5, hgG5⟩ : ∃ G5, G5 = w67.heap.size := ⟨_, rfl⟩
      rw [show ((w67.alloc (.cells #[.bool (decide (quoI xa xb < 0)), .slice Ah nh ch] 24))).heap.size = w67.heap.size + 1 by simp] at cG6_0 cG6_1 zG6
      obtain ⟨G6, hgG6⟩ : ∃ G6, G6 = w67.heap.size + 1 := ⟨_, rfl⟩
      rw [← hgG6] at cG6_0 cG6_1 zG6
      rw [← hgG6]
      clear hgG6 zG6
      rw [← hgG5] at cG5_0 cG5_1 zG5
      rw [← hgG5]
      clear hgG5 zG5
      refine (idivround_c _ ix iy (by omega)).mono ?_
      rintro e w69 ⟨Am, nm, cm, lm, rfl, Nm, Om, im, hw⟩
      replace Om := Om.base (B' := w.heap.size + 2) HZ
      replace c0_0 := keepc hw c0_0
      replace c0_1 := keepc hw c0_1
      replace c1_0 := keepc hw c1_0
      replace c1_1 := keepc hw c1_1
      replace cG1_0 := keepc hw cG1_0
      replace cG1_1 := keepc hw cG1_1
      replace cG2_0 := keepc hw cG2_0
      replace cG2_1 := keepc hw cG2_1
      replace cG3_0 := keepc hw cG3_0
      replace cG3_1 := keepc hw cG3_1
      replace cG4_0 := keepc hw cG4_0
      replace cG4_1 := keepc hw cG4_1
      replace cG5_0 := keepc hw cG5_0
      replace cG5_1 := keepc hw cG5_1
      replace cG6_0 := keepc hw cG6_0
      replace cG6_1 := keepc hw cG6_1
      replace FR := hide ((unhide FR).below hw)
      replace Vx := Vx.below hw
      replace ix := ix.below hw
      replace Vy := Vy.below hw
      replace iy := iy.below hw
      replace Oc := Oc.below hw
      replace ic := ic.below hw
      replace Od := Od.below hw
      replace id := id.below hw
      replace Oh := Oh.below hw
      replace ih := ih.below hw
      replace Ok := Ok.below hw
      replace ik := ik.below hw
      replace HZ := Nat.le_trans HZ hw.size
      clear hw
      have kG := Blk.new w69 24 #[.bool (decide (rndI xa xb < 0)), .slice Am nm cm]
      have zG7 := HZ
      have hnew := below_new w69 (.cells #[.bool (decide (rndI xa xb < 0)), .slice Am nm cm] 24)
      replace c0_0 := keepc hnew c0_0
      replace c0_1 := keepc hnew c0_1
      replace c1_0 := keepc hnew c1_0
      replace c1_1 := keepc hnew c1_1
      replace cG1_0 := keepc hnew cG1_0
      replace cG1_1 := keepc hnew cG1_1
      replace cG2_0 := keepc hnew cG2_0
      replace cG2_1 := keepc hnew cG2_1
      replace cG3_0 := keepc hnew cG3_0
      replace cG3_1 := keepc hnew cG3_1
      replace cG4_0 := keepc hnew cG4_0
      replace cG4_1 := keepc hnew cG4_1
      replace cG5_0 := keepc hnew cG5_0
      replace cG5_1 := keepc hnew cG5_1
      replace cG6_0 := keepc hnew cG6_0
      replace cG6_1 := keepc hnew cG6_1
      replace FR := hide ((unhide FR).below hnew)
      replace Vx := Vx.below hnew
      replace ix := ix.below hnew
      replace Vy := Vy.below hnew
      replace iy := iy.below hnew
      replace Oc := Oc.below hnew
      replace ic := ic.below hnew
      replace Od := Od.below hnew
      replace id := id.below hnew
      replace Oh := Oh.below hnew
      replace ih := ih.below hnew
      replace Ok := Ok.below hnew
      replace ik := ik.below hnew
      replace Om := Om.below hnew
      replace im := im.below hnew
      replace HZ := Nat.le_trans HZ hnew.size
      have cG7_0 := kG.cell 0
      have cG7_1 := kG.cell 1
      clear hnew kG
      go_wp2_with fail
      obtain ⟨w70, hn⟩ : ∃ w70, w70 = (w69.alloc (.cells #[.bool (decide (rndI xa xb < 0)), .slice Am nm cm] 24)) := ⟨_, rfl⟩
      rw [← hn] at c0_0 c0_1 c1_0 c1_1 cG1_0 cG1_1 cG2_0 cG2_1 cG3_0 cG3_1 cG4_0 cG4_1 cG5_0 cG5_1 cG6_0 cG6_1 cG7_0 cG7_1 FR HZ Vx ix Vy iy Oc ic Od id Oh ih Ok ik Om im
      rw [← hn]
      clear hn
      obtain ⟨G7, hgG7⟩ : ∃ G7, G7 = w69.heap.size := ⟨_, rfl⟩
      rw [← hgG7] at cG7_0 cG7_1 zG7
      rw [← hgG7]
      clear hgG7 zG7
      refine (rdivround_c _ ((unhide FR).ii ia) ((unhide FR).ii ib) (by omega)).mono ?_
      rintro e w71 ⟨Ap, np, cp, lp, rfl, Np, Op, ip, hw⟩
      replace Op := Op.base (B' := w.heap.size + 2) HZ
      replace c0_0 := keepc hw c0_0
      replace c0_1 := keepc hw c0_1
      replace c1_0 := keepc hw c1_0
      replace c1_1 := keepc hw c1_1
      replace cG1_0 := keepc hw cG1_0
      replace cG1_1 := keepc hw cG1_1
      replace cG2_0 := keepc hw cG2_0
      replace cG2_1 := keepc hw cG2_1
      replace cG3_0 := keepc hw cG3_0
      replace cG3_1 := keepc hw cG3_1
      replace cG4_0 := keepc hw cG4_0
      replace cG4_1 := keepc hw cG4_1
      replace cG5_0 := keepc hw cG5_0
      replace cG5_1 := keepc hw cG5_1
      replace cG6_0 := keepc hw cG6_0
      replace cG6_1 := keepc hw cG6_1
      replace cG7_0 := keepc hw cG7_0
      replace cG7_1 := keepc hw cG7_1
      replace FR := hide ((unhide FR).below hw)
      replace Vx := Vx.below hw
      replace ix := ix.below hw
      replace Vy := Vy.below hw
      replace iy := iy.below hw
      replace Oc := Oc.below hw
      replace ic := ic.below hw
      replace Od := Od.below hw
      replace id := id.below hw
      replace Oh := Oh.below hw
      replace ih := ih.below hw
      replace Ok := Ok.below hw
      replace ik := ik.below hw
      replace Om := Om.below hw
      replace im := im.below hw
      replace HZ := Nat.le_trans HZ hw.size
      clear hw
      have kG := Blk.new w71 24 #[.bool (decide (rndI xa xb < 0)), .slice Ap np cp]
      have zG8 := HZ
      have hnew := below_new w71 (.cells #[.bool (decide (rndI xa xb < 0)), .slice Ap np cp] 24)
      replace c0_0 := keepc hnew c0_0
      replace c0_1 := keepc hnew c0_1
      replace c1_0 := keepc hnew c1_0
      replace c1_1 := keepc hnew c1_1
      replace cG1_0 := keepc hnew cG1_0
      replace cG1_1 := keepc hnew cG1_1
      replace cG2_0 := keepc hnew cG2_0
      replace cG2_1 := keepc hnew cG2_1
      replace cG3_0 := keepc hnew cG3_0
      replace cG3_1 := keepc hnew cG3_1
      replace cG4_0 := keepc hnew cG4_0
      replace cG4_1 := keepc hnew cG4_1
      replace cG5_0 := keepc hnew cG5_0
      replace cG5_1 := keepc hnew cG5_1
      replace cG6_0 := keepc hnew cG6_0
      replace cG6_1 := keepc hnew cG6_1
      replace cG7_0 := keepc hnew cG7_0
      replace cG7_1 := keepc hnew cG7_1
      replace FR := hide ((unhide FR).below hnew)
      replace Vx := Vx.below hnew
      replace ix := ix.below hnew
      replace Vy := Vy.below hnew
      replace iy := iy.below hnew
      replace Oc := Oc.below hnew
      replace ic := ic.below hnew
      replace Od := Od.below hnew
      replace id := id.below hnew
      replace Oh := Oh.below hnew
      replace ih := ih.below hnew
      replace Ok := Ok.below hnew
      replace ik := ik.below hnew
      replace Om := Om.below hnew
      replace im := im.below hnew
      replace Op := Op.below hnew
      replace ip := ip.below hnew
      replace HZ := Nat.le_trans HZ hnew.size
      have cG8_0 := kG.cell 0
      have cG8_1 := kG.cell 1
      clear hnew kG
      go_wp2_with fail
      obtain ⟨w72, hn⟩ : ∃ w72, w72 = (w71.alloc (.cells #[.bool (decide (rndI xa xb < 0)), .slice Ap np cp] 24)) := ⟨_, rfl⟩
      rw [← hn] at c0_0 c0_1 c1_0 c1_1 cG1_0 cG1_1 cG2_0 cG2_1 cG3_0 cG3_1 cG4_0 cG4_1 cG5_0 cG5_1 cG6_0 cG6_1 cG7_0 cG7_1 cG8_0 cG8_1 FR HZ Vx ix Vy iy Oc ic Od id Oh ih Ok ik Om im Op ip
      rw [← hn]
      clear hn
      obtain ⟨G8, hgG8⟩ : ∃ G8, G8 = w71.heap.size := ⟨_, rfl⟩
      rw [← hgG8] at cG8_0 cG8_1 zG8
      rw [← hgG8]
      clear hgG8 zG8
      refine (isame_v _ Nc Nh ic ih).mono ?_
      rintro e w73 ⟨rfl, hw⟩
      replace c0_0 := keepc hw c0_0
      replace c0_1 := keepc hw c0_1
      replace c1_0 := keepc hw c1_0
      replace c1_1 := keepc hw c1_1
      replace cG1_0 := keepc hw cG1_0
      replace cG1_1 := keepc hw cG1_1
      replace cG2_0 := keepc hw cG2_0
      replace cG2_1 := keepc hw cG2_1
      replace cG3_0 := keepc hw cG3_0
      replace cG3_1 := keepc hw cG3_1
      replace cG4_0 := keepc hw cG4_0
      replace cG4_1 := keepc hw cG4_1
      replace cG5_0 := keepc hw cG5_0
      replace cG5_1 := keepc hw cG5_1
      replace cG6_0 := keepc hw cG6_0
      replace cG6_1 := keepc hw cG6_1
      replace cG7_0 := keepc hw cG7_0
      replace cG7_1 := keepc hw cG7_1
      replace cG8_0 := keepc hw cG8_0
      replace cG8_1 := keepc hw cG8_1
      replace FR := hide ((unhide FR).below hw)
      replace Vx := Vx.below hw
      replace ix := ix.below hw
      replace Vy := Vy.below hw
      replace iy := iy.below hw
      replace Oc := Oc.below hw
      replace ic := ic.below hw
      replace Od := Od.below hw
      replace id := id.below hw
      replace Oh := Oh.below hw
      replace ih := ih.below hw
      replace Ok := Ok.below hw
      replace ik := ik.below hw
      replace Om := Om.below hw
      replace im := im.below hw
      replace Op := Op.below hw
      replace ip := ip.below hw
      replace HZ := Nat.le_trans HZ hw.size
      clear hw
      go_wp2_with fail
      refine (isame_v _ Nd Nk id ik).mono ?_
      rintro e w74 ⟨rfl, hw⟩
      replace c0_0 := keepc hw c0_0
      replace c0_1 := keepc hw c0_1
      replace c1_0 := keepc hw c1_0
      replace c1_1 := keepc hw c1_1
      replace cG1_0 := keepc hw cG1_0
      replace cG1_1 := keepc hw cG1_1
      replace cG2_0 := keepc hw cG2_0
      replace cG2_1 := keepc hw cG2_1
      replace cG3_0 := keepc hw cG3_0
      replace cG3_1 := keepc hw cG3_1
      replace cG4_0 := keepc hw cG4_0
      replace cG4_1 := keepc hw cG4_1
      replace cG5_0 := keepc hw cG5_0
      replace cG5_1 := keepc hw cG5_1
      replace cG6_0 := keepc hw cG6_0
      replace cG6_1 := keepc hw cG6_1
      replace cG7_0 := keepc hw cG7_0
      replace cG7_1 := keepc hw cG7_1
      replace cG8_0 := keepc hw cG8_0
      replace cG8_1 := keepc hw cG8_1
      replace FR := hide ((unhide FR).below hw)
      replace Vx := Vx.below hw
      replace ix := ix.below hw
      replace Vy := Vy.below hw
      replace iy := iy.below hw
      replace Oc := Oc.below hw
      replace ic := ic.below hw
      replace Od := Od.below hw
      replace id := id.below hw
      replace Oh := Oh.below hw
      replace ih := ih.below hw
      replace Ok := Ok.below hw
      replace ik := ik.below hw
      replace Om := Om.below hw
      replace im := im.below hw
      replace Op := Op.below hw
      replace ip := ip.below hw
      replace HZ := Nat.le_trans HZ hw.size
      clear hw
      go_wp2_with fail
      have hE3 : (divEI xb == divEI xb) = true := by simp
      go_wp2_with fail
      refine (isame_v _ Nm Np im ip).mono ?_
      rintro e w75 ⟨rfl, hw⟩
      replace c0_0 := keepc hw c0_0
      replace c0_1 := keepc hw c0_1
      replace c1_0 := keepc hw c1_0
      replace c1_1 := keepc hw c1_1
      replace cG1_0 := keepc hw cG1_0
      replace cG1_1 := keepc hw cG1_1
      replace cG2_0 := keepc hw cG2_0
      replace cG2_1 := keepc hw cG2_1
      replace cG3_0 := keepc hw cG3_0
      replace cG3_1 := keepc hw cG3_1
      replace cG4_0 := keepc hw cG4_0
      replace cG4_1 := keepc hw cG4_1
      replace cG5_0 := keepc hw cG5_0
      replace cG5_1 := keepc hw cG5_1
      replace cG6_0 := keepc hw cG6_0
      replace cG6_1 := keepc hw cG6_1
      replace cG7_0 := keepc hw cG7_0
      replace cG7_1 := keepc hw cG7_1
      replace cG8_0 := keepc hw cG8_0
      replace cG8_1 := keepc hw cG8_1
      replace FR := hide ((unhide FR).below hw)
      replace Vx := Vx.below hw
      replace ix := ix.below hw
      replace Vy := Vy.below hw
      replace iy := iy.below hw
      replace Oc := Oc.below hw
      replace ic := ic.below hw
      replace Od := Od.below hw
      replace id := id.below hw
      replace Oh := Oh.below hw
      replace ih := ih.below hw
      replace Ok := Ok.below hw
      replace ik := ik.below hw
      replace Om := Om.below hw
      replace im := im.below hw
      replace Op := Op.below hw
      replace ip := ip.below hw
      replace HZ := Nat.le_trans HZ hw.size
      clear hw
      go_wp2_with fail
      refine (ikept_t _ Vx.own.toIn ((unhide FR).in_ ja) Vx.last Vx.room).mono ?_
      rintro e w76 ⟨rfl, hw⟩
      replace c0_0 := keepc hw c0_0
      replace c0_1 := keepc hw c0_1
      replace c1_0 := keepc hw c1_0
      replace c1_1 := keepc hw c1_1
      replace cG1_0 := keepc hw cG1_0
      replace cG1_1 := keepc hw cG1_1
      replace cG2_0 := keepc hw cG2_0
      replace cG2_1 := keepc hw cG2_1
      replace cG3_0 := keepc hw cG3_0
      replace cG3_1 := keepc hw cG3_1
      replace cG4_0 := keepc hw cG4_0
      replace cG4_1 := keepc hw cG4_1
      replace cG5_0 := keepc hw cG5_0
      replace cG5_1 := keepc hw cG5_1
      replace cG6_0 := keepc hw cG6_0
      replace cG6_1 := keepc hw cG6_1
      replace cG7_0 := keepc hw cG7_0
      replace cG7_1 := keepc hw cG7_1
      replace cG8_0 := keepc hw cG8_0
      replace cG8_1 := keepc hw cG8_1
      replace FR := hide ((unhide FR).below hw)
      replace Vx := Vx.below hw
      replace ix := ix.below hw
      replace Vy := Vy.below hw
      replace iy := iy.below hw
      replace Oc := Oc.below hw
      replace ic := ic.below hw
      replace Od := Od.below hw
      replace id := id.below hw
      replace Oh := Oh.below hw
      replace ih := ih.below hw
      replace Ok := Ok.below hw
      replace ik := ik.below hw
      replace Om := Om.below hw
      replace im := im.below hw
      replace Op := Op.below hw
      replace ip := ip.below hw
      replace HZ := Nat.le_trans HZ hw.size
      clear hw
      go_wp2_with fail
      refine (ikept_t _ Vy.own.toIn ((unhide FR).in_ jb) Vy.last Vy.room).mono ?_
      rintro e w77 ⟨rfl, hw⟩
      replace c0_0 := keepc hw c0_0
      replace c0_1 := keepc hw c0_1
      replace c1_0 := keepc hw c1_0
      replace c1_1 := keepc hw c1_1
      replace cG1_0 := keepc hw cG1_0
      replace cG1_1 := keepc hw cG1_1
      replace cG2_0 := keepc hw cG2_0
      replace cG2_1 := keepc hw cG2_1
      replace cG3_0 := keepc hw cG3_0
      replace cG3_1 := keepc hw cG3_1
      replace cG4_0 := keepc hw cG4_0
      replace cG4_1 := keepc hw cG4_1
      replace cG5_0 := keepc hw cG5_0
      replace cG5_1 := keepc hw cG5_1
      replace cG6_0 := keepc hw cG6_0
      replace cG6_1 := keepc hw cG6_1
      replace cG7_0 := keepc hw cG7_0
      replace cG7_1 := keepc hw cG7_1
      replace cG8_0 := keepc hw cG8_0
      replace cG8_1 := keepc hw cG8_1
      replace FR := hide ((unhide FR).below hw)
      replace Vx := Vx.below hw
      replace ix := ix.below hw
      replace Vy := Vy.below hw
      replace iy := iy.below hw
      replace Oc := Oc.below hw
      replace ic := ic.below hw
      replace Od := Od.below hw
      replace id := id.below hw
      replace Oh := Oh.below hw
      replace ih := ih.below hw
      replace Ok := Ok.below hw
      replace ik := ik.below hw
      replace Om := Om.below hw
      replace im := im.below hw
      replace Op := Op.below hw
      replace ip := ip.below hw
      replace HZ := Nat.le_trans HZ hw.size
      clear hw
      go_wp2_with fail
      refine (iexample_c _).mono ?_
      rintro e w78 ⟨rfl, hw⟩
      replace c0_0 := keepc hw c0_0
      replace c0_1 := keepc hw c0_1
      replace c1_0 := keepc hw c1_0
      replace c1_1 := keepc hw c1_1
      replace cG1_0 := keepc hw cG1_0
      replace cG1_1 := keepc hw cG1_1
      replace cG2_0 := keepc hw cG2_0
      replace cG2_1 := keepc hw cG2_1
      replace cG3_0 := keepc hw cG3_0
      replace cG3_1 := keepc hw cG3_1
      replace cG4_0 := keepc hw cG4_0
      replace cG4_1 := keepc hw cG4_1
      replace cG5_0 := keepc hw cG5_0
      replace cG5_1 := keepc hw cG5_1
      replace cG6_0 := keepc hw cG6_0
      replace cG6_1 := keepc hw cG6_1
      replace cG7_0 := keepc hw cG7_0
      replace cG7_1 := keepc hw cG7_1
      replace cG8_0 := keepc hw cG8_0
      replace cG8_1 := keepc hw cG8_1
      replace FR := hide ((unhide FR).below hw)
      replace Vx := Vx.below hw
      replace ix := ix.below hw
      replace Vy := Vy.below hw
      replace iy := iy.below hw
      replace Oc := Oc.below hw
      replace ic := ic.below hw
      replace Od := Od.below hw
      replace id := id.below hw
      replace Oh := Oh.below hw
      replace ih := ih.below hw
      replace Ok := Ok.below hw
      replace ik := ik.below hw
      replace Om := Om.below hw
      replace im := im.below hw
      replace Op := Op.below hw
      replace ip := ip.below hw
      replace HZ := Nat.le_trans HZ hw.size
      clear hw
      go_wp2_with fail
      go_ret
      exact ⟨rfl, (unhide FR).bel⟩
  · have HF : Hid (allFew 40 [(sa, Aa, na, ca), (sb, Ab, nb, cb)] = false) := by show _ = _; simp [allFew]; omega
    clear hsm
    go_enter Try.func8, Try.ntmps8
    go_upto_region 1 with fail
    obtain ⟨w0, hw0⟩ : ∃ w0, w0 = ((w.alloc (.cells #[.bool sa, .slice Aa na ca] 24)).alloc (.cells #[.bool sb, .slice Ab nb cb] 24)) := ⟨_, rfl⟩
    have kw00 : Blk w0 (w.heap.size) 24 #[.bool sa, .slice Aa na ca] := by rw [hw0]; exact allocs_blk [(#[.bool sa, .slice Aa na ca], 24), (#[.bool sb, .slice Ab nb cb], 24)] w 0 _ _ rfl
    have kw01 : Blk w0 (w.heap.size + 1) 24 #[.bool sb, .slice Ab nb cb] := by rw [hw0]; exact allocs_blk [(#[.bool sa, .slice Aa na ca], 24), (#[.bool sb, .slice Ab nb cb], 24)] w 1 _ _ rfl
    have FR : Fr w [] w0 := (⟨by rw [hw0]; exact allocs_below [(#[.bool sa, .slice Aa na ca], 24), (#[.bool sb, .slice Ab nb cb], 24)] w, fun _ h => by cases h⟩ : Fr w [] w0)
    have sw0 : w0.heap.size = w.heap.size + 2 := by rw [hw0]; exact allocs_size [(#[.bool sa, .slice Aa na ca], 24), (#[.bool sb, .slice Ab nb cb], 24)] w
    rw [← hw0]
    clear hw0
    have c0_0 := kw00.cell 0
    have c0_1 := kw00.cell 1
    have c1_0 := kw01.cell 0
    have c1_1 := kw01.cell 1
    replace FR := hide FR
    have HZ : w.heap.size + 2 ≤ w0.heap.size := by omega
    clear sw0 kw00 kw01
    have kF := Blk.new w0 24 #[.bool sa, .slice Aa na ca, .bool sb, .slice Ab nb cb]
    have hw := below_new w0 (.cells #[.bool sa, .slice Aa na ca, .bool sb, .slice Ab nb cb] 24)
    have old_c0_0 := c0_0
    have old_c0_1 := c0_1
    have old_c1_0 := c1_0
    have old_c1_1 := c1_1
    replace c0_0 := keepc hw c0_0
    replace c0_1 := keepc hw c0_1
    replace c1_0 := keepc hw c1_0
    replace c1_1 := keepc hw c1_1
    replace FR := hide ((unhide FR).below hw)
    replace HZ := Nat.le_trans HZ hw.size
    clear hw
    go_wp2_with fail
    clear old_c0_0 old_c0_1 old_c1_0 old_c1_1
    obtain ⟨w2, hn⟩ : ∃ w2, w2 = w0.alloc (.cells #[.bool sa, .slice Aa na ca, .bool sb, .slice Ab nb cb] 24) := ⟨_, rfl⟩
    rw [← hn] at c0_0 c0_1 c1_0 c1_1 FR HZ kF
    rw [← hn]
    clear hn
    refine (ifew_c (L := [(sa, Aa, na, ca), (sb, Ab, nb, cb)]) (k := 2) (most := 40) _ (rowi2 kF (by omega) (by omega)) rfl (by omega) (by omega)).mono ?_
    rintro e w3 ⟨rfl, hw⟩
    replace c0_0 := keepc hw c0_0
    replace c0_1 := keepc hw c0_1
    replace c1_0 := keepc hw c1_0
    replace c1_1 := keepc hw c1_1
    replace FR := hide ((unhide FR).below hw)
    replace HZ := Nat.le_trans HZ hw.size
    clear hw kF
    rw [unhide HF]
    go_wp2_with fail
    refine (iexample_c _).mono ?_
    rintro e w4 ⟨rfl, hw⟩
    replace c0_0 := keepc hw c0_0
    replace c0_1 := keepc hw c0_1
    replace c1_0 := keepc hw c1_0
    replace c1_1 := keepc hw c1_1
    replace FR := hide ((unhide FR).below hw)
    replace HZ := Nat.le_trans HZ hw.size
    clear hw
    go_wp2_with fail
    go_ret
    exact ⟨rfl, (unhide FR).bel⟩

end Go.Proofs.Ytjdcolaefhheaaa
