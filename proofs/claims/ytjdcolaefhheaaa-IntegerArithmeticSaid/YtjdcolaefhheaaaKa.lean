/-
  Walks: the laws' helpers of chapter 2: same, few, own, kept.
-/
import Derived.Test.YtjdcolaefhheaaaIp
namespace Go.Proofs.Ytjdcolaefhheaaa
set_option linter.unusedVariables false
set_option linter.unusedSimpArgs false
open Go.RowKit
attribute [local go_sem ↓] Go.wp_at_zero Go.wp_at_succ

set_option maxRecDepth 100000 in
set_option maxHeartbeats 2000000 in
theorem isame_t {A B : Option Addr} {n c d : Nat} {l : List Nat} {s : Bool} (w : World) (ha : In w A n c l) (hb : In w B n d l) :
    Calls Try.prog 53 #[.agg #[.bool s, .slice A n c], .agg #[.bool s, .slice B n d]] w (RetV w (.bool true)) := by
  have hs : (s == s) = true := by simp
  have hs2 : (s != s) = false := by simp
  have hn := ha.lenI
  obtain ⟨w0, hw0⟩ : ∃ w0, w0 = ((w.alloc (.cells #[.bool s, .slice A n c] 24)).alloc (.cells #[.bool s, .slice B n d] 24)) := ⟨_, rfl⟩
  have k0 : Blk w0 w.heap.size 24 #[.bool s, .slice A n c] := by rw [hw0]; exact allocs_blk [(#[.bool s, .slice A n c], 24), (#[.bool s, .slice B n d], 24)] w 0 _ _ rfl
  have k1 : Blk w0 (w.heap.size + 1) 24 #[.bool s, .slice B n d] := by rw [hw0]; exact allocs_blk [(#[.bool s, .slice A n c], 24), (#[.bool s, .slice B n d], 24)] w 1 _ _ rfl
  have hb0 : Below w.heap.size w w0 := by rw [hw0]; exact allocs_below [(#[.bool s, .slice A n c], 24), (#[.bool s, .slice B n d], 24)] w
  go_enter Try.func53, Try.ntmps53
  go_wp2_with fail
  rw [← hw0]
  clear hw0
  have a0 := k0.cell 0
  have a1 := k0.cell 1
  have b0 := k1.cell 0
  have b1 := k1.cell 1
  have ia := ha.below hb0
  have ib := hb.below hb0
  clear k0 k1 ha hb
  go_loopw [23] (fun si wx => ∃ k q : Nat, k ≤ n ∧ si = .int .i64 k ∧ wx = w0.drewN q) (fun si _ => n - (intOf si).toNat)
  case atStart => exact ⟨0, 0, Nat.zero_le _, rfl, rfl⟩
  case round =>
    obtain ⟨k, q, hk, rfl, rfl⟩ := hrel
    by_cases hlt : k < n
    · obtain ⟨ad, rfl, hca⟩ := ia.at_ (k := k) hlt
      obtain ⟨bd, rfl, hcb⟩ := ib.at_ (k := k) hlt
      have hkn : (k : Int) < (n : Int) := by omega
      have t1 : (((dg l k : Nat) : Int) != ((dg l k : Nat) : Int)) = false := by simp
      go_wp2_with fail
      go_quiet (fail)
      go_wp2_with fail
      go_roundw
      case rel => exact ⟨k + 1, _, by omega, by go_num, rfl⟩
      case measure => simp [intOf]; omega
    · have hkn : ¬ (k : Int) < (n : Int) := by omega
      go_wp2_with fail
      go_ret
      exact ⟨rfl, below_drewN hb0 _⟩

/-- A row of integers' structs. -/
def Rowi (w : World) (g : Nat) (L : List (Bool × Option Addr × Nat × Nat)) : Prop :=
  ∀ i e, L[i]? = some e → w.cell? ⟨g, i * 2, none⟩ = some (.bool e.1) ∧ w.cell? ⟨g, i * 2 + 1, none⟩ = some (.slice e.2.1 e.2.2.1 e.2.2.2) ∧ (e.2.2.1 : Int) ≤ 9223372036854775807
def allFew (most : Nat) (L : List (Bool × Option Addr × Nat × Nat)) : Bool := L.all fun e => decide (e.2.2.1 ≤ most)

set_option maxRecDepth 100000 in
set_option maxHeartbeats 2000000 in
theorem ifew_c {g k c most : Nat} {L : List (Bool × Option Addr × Nat × Nat)} (w : World) (h : Rowi w g L) (hk : L.length = k) (hk2 : k ≤ 100) (hm : most ≤ 1000000) :
    Calls Try.prog 40 #[.int .i64 most, .slice (some ⟨g, 0, none⟩) k c] w (RetV w (.bool (allFew most L))) := by
  go_enter Try.func40, Try.ntmps40
  go_wp2_with fail
  have HK := hide hk
  clear hk
  go_loopw [9] (fun si wx => ∃ i : Nat, i ≤ k ∧ si = .int .i64 i ∧ Hid (allFew most (L.take i) = true) ∧ Below w.heap.size w wx) (fun si _ => k - (intOf si).toNat)
  case atStart => exact ⟨0, Nat.zero_le _, rfl, rfl, Below.refl _ _⟩
  case round =>
    obtain ⟨i, hi, rfl, hI, hbx⟩ := hrel
    by_cases hlt : i < k
    · have hL : i < L.length := by rw [unhide HK]; exact hlt
      obtain ⟨e, he⟩ : ∃ e, L[i]? = some e := ⟨_, List.getElem?_eq_getElem hL⟩
      obtain ⟨h0, h1, hnI⟩ := h i e he
      have HE := hide he
      replace h0 := keepc hbx h0
      replace h1 := keepc hbx h1
      have hik : (i : Int) < (k : Int) := by omega
      clear he h
      go_wp2_with fail
      · have hgt : most < e.2.2.1 := by assumption
        go_ret
        refine ⟨?_, hbx.alloc hbx.size _⟩
        have : allFew most L = false := by
          rw [allFew, List.all_eq_false]
          exact ⟨e, List.mem_of_getElem? (unhide HE), by simp; omega⟩
        rw [this]; rfl
      · have hle : ¬ most < e.2.2.1 := by assumption
        go_roundw
        case rel =>
          refine ⟨i + 1, by omega, by go_num, ?_, hbx.alloc hbx.size _⟩
          show allFew most (L.take (i + 1)) = true
          have h2 := List.getElem?_eq_some_iff.1 (unhide HE)
          rw [List.take_succ_eq_append_getElem hL, allFew, List.all_append, Bool.and_eq_true]
          refine ⟨unhide hI, ?_⟩
          rw [h2.2]
          simp; omega
        case measure => simp [intOf]; omega
    · have hik : ¬ (i : Int) < (k : Int) := by omega
      have hall : Hid (allFew most L = true) := by
        have := unhide hI
        rwa [List.take_of_length_le (by rw [unhide HK]; omega)] at this
      go_wp2_with fail
      go_ret
      rw [unhide hall]
      exact ⟨rfl, hbx⟩

/-- A copy with a digit more behind its end. -/
def RetOwn (w : World) (s : Bool) (n : Nat) (l : List Nat) (e : Ending) (w' : World) : Prop :=
  ∃ ad c, e = .returned (.agg #[.bool s, .slice (some ad) n c]) ∧ n + 1 ≤ c ∧ Own w' w.heap.size (some ad) n c l ∧ w'.cell? (ad.add n) = some (.int .u32 77) ∧ Below w.heap.size w w'

set_option maxRecDepth 100000 in
set_option maxHeartbeats 2000000 in
theorem iown_c {A : Option Addr} {n c : Nat} {l : List Nat} {s : Bool} (w : World) (ha : In w A n c l) (hn : n ≤ 1000000) :
    Calls Try.prog 42 #[.agg #[.bool s, .slice A n c]] w (RetOwn w s n l) := by
  obtain ⟨i0, hi0, hz0, hz1, hz2⟩ := info_parts Try.info_u32
  have hl := hide ha.len
  have hd := ha.dig
  go_enter Try.func42, Try.ntmps42
  go_upto_region 1 with fail
  obtain ⟨w0, hw0⟩ : ∃ w0, w0 = ((w.alloc (.cells #[.bool s, .slice A n c] 24)).alloc (.cells #[.bool false, .slice none 0 0] 24)) := ⟨_, rfl⟩
  have kw00 : Blk w0 (w.heap.size) 24 #[.bool s, .slice A n c] := by rw [hw0]; exact allocs_blk [(#[.bool s, .slice A n c], 24), (#[.bool false, .slice none 0 0], 24)] w 0 _ _ rfl
  have kw01 : Blk w0 (w.heap.size + 1) 24 #[.bool false, .slice none 0 0] := by rw [hw0]; exact allocs_blk [(#[.bool s, .slice A n c], 24), (#[.bool false, .slice none 0 0], 24)] w 1 _ _ rfl
  have fr : Fr w [(w.heap.size + 1, 2)] w0 := Fr.cons ((⟨by rw [hw0]; exact allocs_below [(#[.bool s, .slice A n c], 24), (#[.bool false, .slice none 0 0], 24)] w, fun _ h => by cases h⟩ : Fr w [] w0)) (g := w.heap.size + 1) (k := 2) (by omega) (.of_blk kw01 rfl)
  have sw0 : w0.heap.size = w.heap.size + 2 := by rw [hw0]; exact allocs_size [(#[.bool s, .slice A n c], 24), (#[.bool false, .slice none 0 0], 24)] w
  rw [← hw0]
  clear hw0
  have a0 := kw00.cell 0
  have a1 := kw00.cell 1
  have HZ2 : w.heap.size + 2 ≤ w0.heap.size := by omega
  clear kw00 kw01 sw0
  have a1n := keepc (below_new w0 (.cells #[] 53)) a1
  have i1 := fr.in_ ha
  have hnI := i1.lenI
  have hr := hide i1.rd
  go_wp2_with (first
    | (at_builtin; refine wpList_append_any _ rfl (.tmp 4) (.tmp 6) 22 rfl w0.heap.size 53 i0 _ 1 4 Try.underlying22 hi0 hz0 hz1 hz2 rfl (by omega) (.slice (some ⟨w0.heap.size, 0, none⟩) 0 0) 0 [] rfl (World.ownsRow_lit _ _ _ (Nat.le_refl _) (by unfold maxLen; omega) rfl) w0.heap.size A n c (u32s l) rfl ((unhide hr).alloc (Nat.le_refl _) _) u32s_one (by simp only [maxLen]; omega) (by omega) (by simp) ?_; intro v1 w1 hown1 hg1 hat1; simp only [Nat.zero_add, List.nil_append] at hown1)
    | (at_builtin; refine wpList_append_own_at _ rfl (.tmp 7) (.tmp 8) 22 rfl w0.heap.size 53 i0 (.int .u32 0) 1 4 Try.underlying22 hi0 hz0 hz1 hz2 rfl (by decide) _ _ _ (by rfl) (hown1.alloc _) ⟨w1.heap.size, 0, none⟩ 1 1 [.int .u32 _] rfl rfl (cell_one_new _ _ _) (by intro u hu; simp at hu; subst hu; rfl) (by simp only [maxLen]; omega) (by omega) (by have := hg1.size; simp at this ⊢; omega) ?_; intro v2 w2 hown2 hg2 _ hat2))
  have hb1 : Below w0.heap.size w0 w1 := ((Below.refl _ _).alloc (Nat.le_refl _) _).grown hg1 (by simp) (fun k hk => by simp [Value.ownBlock] at hk; omega)
  have hb2 : Below w0.heap.size w0 w2 := (hb1.alloc hb1.size _).grown hg2 (by have := hb1.size; simp; omega) (fun k hk => (hown1.lt k hk).1)
  have hown3 := snoc_own (x := 77) hown2 rfl
  obtain ⟨A2, c2, rfl, o2⟩ := Own.of_row hown3 (hd.append (Dig.one (by omega))) (by rw [List.length_append, unhide hl]; rfl)
  obtain ⟨ad, rfl, hc77⟩ := o2.toIn.at_ (k := n) (by omega)
  have hdg : dg (l ++ [77]) n = 77 := by rw [dg_append_right (by rw [unhide hl]; exact Nat.le_refl _), unhide hl, Nat.sub_self]; rfl
  rw [hdg] at hc77
  have hcap := o2.toIn.le
  have o3 : Own w2 w0.heap.size (some ad) n c2 l := by
    have h := o2.take (k := n) (c' := c2) (by omega) (by omega) (Nat.le_refl _)
    rwa [List.take_left' (unhide hl)] at h
  have fr2 := fr.below hb2
  replace a0 := keepc hb2 a0
  replace a1 := keepc hb2 a1
  have hI1 : (0 : Int) ≤ (n : Int) := by omega
  have hI2 : (n : Int) ≤ (c2 : Int) := by omega
  have hI3 := o3.toIn.capI
  clear hown1 hown2 hown3 hg1 hg2 hat1 hat2 o2 hb1 hdg hr i1
  have FR := hide fr2
  have FR0 := unhide FR
  obtain ⟨⟨_, kg1_0, fg1_0⟩, ⟨_, kg1_1, fg1_1⟩⟩ := FR0.two (g := w.heap.size + 1) (by simp)
  have hS := And.intro a0 (And.intro a1 (FR))
  clear a0 a1 FR
  refine wp_region_noPanic ?_
  refine wp_region_WL (S := fun w' => w'.cell? ⟨w.heap.size, 0, none⟩ = some (.bool s) ∧ w'.cell? ⟨w.heap.size, 1, none⟩ = some (.slice A n c) ∧ Hid (Fr w [(w.heap.size + 1, 2)] w')) (T := fun i => i == 8) 9 #[false, false, false, false, false, false, false, false, false] rfl rfl (by kernel_rfl) (drew2 hS) (fun hV0 => ?_)
  clear hS
  refine wpAnyW_takeL (i := 0) (v := ?_) (L := #[true, false, false, false, false, false, false, false, false]) (some 10) rfl (by kernel_rfl) (by kernel_rfl) (by kernel_rfl) (by kernel_rfl) (by kernel_rfl) (by kernel_rfl) (fun _ _ _ h => h) (by kernel_rfl) (by assumption) (by kernel_rfl) ?_ ?_
  rotate_left
  · (intro W1 hSw; (try dsimp only at hSw); go_simp; try with_reducible rfl)
  try simp only [Act.put, List.setIfInBounds_toArray, List.set_cons_zero, List.set_cons_succ]
  refine wpAnyW_takeL (i := 1) (v := ?_) (L := #[true, true, false, false, false, false, false, false, false]) (some 11) rfl (by kernel_rfl) (by kernel_rfl) (by kernel_rfl) (by kernel_rfl) (by kernel_rfl) (by kernel_rfl) (fun _ _ _ h => h) (by kernel_rfl) (by assumption) (by kernel_rfl) ?_ ?_
  rotate_left
  · (intro W1 hSw; (try dsimp only at hSw); go_simp; try with_reducible rfl)
  try simp only [Act.put, List.setIfInBounds_toArray, List.set_cons_zero, List.set_cons_succ]
  refine wpAnyW_takeL (i := 2) (v := ?_) (L := #[true, true, true, false, false, false, false, false, false]) (some 12) rfl (by kernel_rfl) (by kernel_rfl) (by kernel_rfl) (by kernel_rfl) (by kernel_rfl) (by kernel_rfl) (fun _ _ _ h => h) (by kernel_rfl) (by assumption) (by kernel_rfl) ?_ ?_
  rotate_left
  · (intro W1 hSw; (try dsimp only at hSw); go_simp; try with_reducible rfl)
  try simp only [Act.put, List.setIfInBounds_toArray, List.set_cons_zero, List.set_cons_succ]
  refine wpAnyW_takeL (i := 3) (v := ?_) (L := #[true, true, true, true, false, false, false, false, false]) (some 13) rfl (by kernel_rfl) (by kernel_rfl) (by kernel_rfl) (by kernel_rfl) (by kernel_rfl) (by kernel_rfl) (fun _ _ _ h => h) (by kernel_rfl) (by assumption) (by kernel_rfl) ?_ ?_
  rotate_left
  · (intro W1 hSw; (try dsimp only at hSw); go_simp; try with_reducible rfl)
  try simp only [Act.put, List.setIfInBounds_toArray, List.set_cons_zero, List.set_cons_succ]
  refine wpAnyW_takeL (i := 4) (v := ?_) (L := #[true, true, true, true, true, false, false, false, false]) (some 14) rfl (by kernel_rfl) (by kernel_rfl) (by kernel_rfl) (by kernel_rfl) (by kernel_rfl) (by kernel_rfl) (fun _ _ _ h => h) (by kernel_rfl) (by assumption) (by kernel_rfl) ?_ ?_
  rotate_left
  · (intro W1 hSw; (try dsimp only at hSw); go_simp; try with_reducible rfl)
  try simp only [Act.put, List.setIfInBounds_toArray, List.set_cons_zero, List.set_cons_succ]
  refine wpAnyW_takeL (i := 5) (v := ?_) (L := #[true, true, true, true, true, true, false, false, false]) (some 15) rfl (by kernel_rfl) (by kernel_rfl) (by kernel_rfl) (by kernel_rfl) (by kernel_rfl) (by kernel_rfl) (fun _ _ _ h => h) (by kernel_rfl) (by assumption) (by kernel_rfl) ?_ ?_
  rotate_left
  · (intro W1 hSw; (try dsimp only at hSw); go_simp; try with_reducible rfl)
  try simp only [Act.put, List.setIfInBounds_toArray, List.set_cons_zero, List.set_cons_succ]
  refine wpAnyW_takeL (i := 6) (v := ?_) (L := #[true, true, true, true, true, true, true, false, false]) (some 16) rfl (by kernel_rfl) (by kernel_rfl) (by kernel_rfl) (by kernel_rfl) (by kernel_rfl) (by kernel_rfl) (fun _ _ _ h => h) (by kernel_rfl) (by assumption) (by kernel_rfl) ?_ ?_
  rotate_left
  · (intro W1 hSw; (try dsimp only at hSw); go_simp; try with_reducible rfl)
  try simp only [Act.put, List.setIfInBounds_toArray, List.set_cons_zero, List.set_cons_succ]
  refine wpAnyW_takeL (i := 7) (v := ?_) (L := #[true, true, true, true, true, true, true, true, false]) (some 17) rfl (by kernel_rfl) (by kernel_rfl) (by kernel_rfl) (by kernel_rfl) (by kernel_rfl) (by kernel_rfl) (fun _ _ _ h => h) (by kernel_rfl) (by assumption) (by kernel_rfl) ?_ ?_
  rotate_left
  · (intro W1 hSw; (try dsimp only at hSw); go_simp; try with_reducible rfl)
  try simp only [Act.put, List.setIfInBounds_toArray, List.set_cons_zero, List.set_cons_succ]
  refine wpAnyW_oneT (i := 8) (L := #[true, true, true, true, true, true, true, true, true]) (by kernel_rfl) rfl rfl (by kernel_rfl) (by kernel_rfl) (fun K hK => ?_)
  go_simp
  refine hK.out _ _ ?_
  clear hK K
  try simp only [Act.put, List.setIfInBounds_toArray, List.set_cons_zero, List.set_cons_succ]
  refine wpAnyW_done (by kernel_rfl) ?_ _
  refine NoPanic.normal ?_
  go_wp2_with fail
  refine bodyPost_ret (v := .agg #[.bool s, .slice (some ad) n c2]) (by simp [results, Try.results42, go_sem, kg1_0, fg1_0, kg1_1, fg1_1]) rfl ?_
  have h0 : w.heap.size + 1 < w0.heap.size := by omega
  refine ⟨ad, c2, rfl, hcap, ((o3.set2 h0).drew).base (by omega), ?_, ((FR0.set (by simp) _).set (by simp) _).drew.bel⟩
  have hne : (ad.add n).block ≠ w.heap.size + 1 := by
    rcases Nat.eq_zero_or_pos c2 with e | e
    · omega
    · obtain ⟨g, _, _, hA, hg, _⟩ := o3.own e
      injection hA with hA
      rw [block_of_add, hA]
      exact Nat.ne_of_gt (Nat.lt_of_lt_of_le h0 hg)
  exact cellst (cellst hc77 hne) hne

set_option maxRecDepth 100000 in
set_option maxHeartbeats 2000000 in
theorem ikept_t {B : Option Addr} {ad : Addr} {n c d : Nat} {l : List Nat} {s : Bool} (w : World) (ha : In w (some ad) n c l) (hb : In w B n d l) (hc : w.cell? (ad.add n) = some (.int .u32 77)) (hn : n + 1 ≤ c) :
    Calls Try.prog 54 #[.agg #[.bool s, .slice (some ad) n c], .agg #[.bool s, .slice B n d]] w (RetV w (.bool true)) := by
  have hcI := ha.capI
  have hI1 : (n : Int) + 1 ≤ (c : Int) := by omega
  have hI2 : (0 : Int) ≤ (n : Int) := by omega
  have hw1 : IntKind.i64.wrap ((n : Int) + 1) = (n : Int) + 1 := IntWalk.i64_in _ (by omega)
  have hw2 : ((n : Int) + 1).toNat = n + 1 := by omega
  have hI3 : (n : Int) < (n : Int) + 1 := by omega
  have hI4 : (0 : Int) ≤ (n : Int) + 1 := by omega
  go_enter Try.func54, Try.ntmps54
  go_upto_region 1 with fail
  obtain ⟨w0, hw0⟩ : ∃ w0, w0 = ((w.alloc (.cells #[.bool s, .slice (some ad) n c] 24)).alloc (.cells #[.bool s, .slice B n d] 24)) := ⟨_, rfl⟩
  have kw00 : Blk w0 (w.heap.size) 24 #[.bool s, .slice (some ad) n c] := by rw [hw0]; exact allocs_blk [(#[.bool s, .slice (some ad) n c], 24), (#[.bool s, .slice B n d], 24)] w 0 _ _ rfl
  have kw01 : Blk w0 (w.heap.size + 1) 24 #[.bool s, .slice B n d] := by rw [hw0]; exact allocs_blk [(#[.bool s, .slice (some ad) n c], 24), (#[.bool s, .slice B n d], 24)] w 1 _ _ rfl
  have FR : Fr w [] w0 := (⟨by rw [hw0]; exact allocs_below [(#[.bool s, .slice (some ad) n c], 24), (#[.bool s, .slice B n d], 24)] w, fun _ h => by cases h⟩ : Fr w [] w0)
  have sw0 : w0.heap.size = w.heap.size + 2 := by rw [hw0]; exact allocs_size [(#[.bool s, .slice (some ad) n c], 24), (#[.bool s, .slice B n d], 24)] w
  rw [← hw0]
  clear hw0
  have c0_0 := kw00.cell 0
  have c0_1 := kw00.cell 1
  have c1_0 := kw01.cell 0
  have c1_1 := kw01.cell 1
  replace FR := hide FR
  have HZ : w.heap.size + 2 ≤ w0.heap.size := by omega
  clear sw0 kw00 kw01
  have hc0 : w0.cell? (ad.add n) = some (.int .u32 77) := by
    have hlt := World.block_lt_of_cell? w (ad.add n) hc
    exact ((unhide FR).bel.cell hlt).trans hc
  have hS := And.intro c0_0 (And.intro c0_1 (And.intro c1_0 (And.intro c1_1 (And.intro hc0 (FR)))))
  clear c0_0 c0_1 c1_0 c1_1 hc0 FR
  refine wp_region_noPanic ?_
  refine wp_region_WL (S := fun w' => w'.cell? ⟨w.heap.size, 0, none⟩ = some (.bool s) ∧ w'.cell? ⟨w.heap.size, 1, none⟩ = some (.slice (some ad) n c) ∧ w'.cell? ⟨w.heap.size + 1, 0, none⟩ = some (.bool s) ∧ w'.cell? ⟨w.heap.size + 1, 1, none⟩ = some (.slice B n d) ∧ w'.cell? (ad.add n) = some (.int .u32 77) ∧ Hid (Fr w [] w')) (T := fun i => false) 19 #[false, false, false, false, false, false, false, false, false, false, false, false, false, false, false, false, false, false, false] rfl rfl (by kernel_rfl) (drew5 hS) (fun hV0 => ?_)
  clear hS
  refine wpAnyW_takeL (i := 0) (v := ?_) (L := #[true, false, false, false, false, false, false, false, false, false, false, false, false, false, false, false, false, false, false]) (some 5) rfl (by kernel_rfl) (by kernel_rfl) (by kernel_rfl) (by kernel_rfl) (by kernel_rfl) (by kernel_rfl) (fun _ _ _ h => h) (by kernel_rfl) (by assumption) (by kernel_rfl) ?_ ?_
  rotate_left
  · (intro W1 hSw; (try dsimp only at hSw); go_simp; try with_reducible rfl)
  try simp only [Act.put, List.setIfInBounds_toArray, List.set_cons_zero, List.set_cons_succ]
  refine wpAnyW_takeL (i := 1) (v := ?_) (L := #[true, true, false, false, false, false, false, false, false, false, false, false, false, false, false, false, false, false, false]) (some 6) rfl (by kernel_rfl) (by kernel_rfl) (by kernel_rfl) (by kernel_rfl) (by kernel_rfl) (by kernel_rfl) (fun _ _ _ h => h) (by kernel_rfl) (by assumption) (by kernel_rfl) ?_ ?_
  rotate_left
  · (intro W1 hSw; (try dsimp only at hSw); go_simp; try with_reducible rfl)
  try simp only [Act.put, List.setIfInBounds_toArray, List.set_cons_zero, List.set_cons_succ]
  refine wpAnyW_one (i := 2) (L := #[true, true, true, false, false, false, false, false, false, false, false, false, false, false, false, false, false, false, false]) (by kernel_rfl) rfl rfl (by kernel_rfl) (by kernel_rfl) (fun K hK => ?_)
  go_simp
  refine (isame_t _ ((to5 (by assumption)).in_ ha) ((to5 (by assumption)).in_ hb)).mono ?_
  rintro e w2 ⟨rfl, hw⟩
  replace HZ := Nat.le_trans HZ hw.size
  refine hK.out _ _ (keep5 (by assumption) hw) (fun hV2 => ?_)
  clear hK K
  try simp only [Act.put, List.setIfInBounds_toArray, List.set_cons_zero, List.set_cons_succ]
  clear hw
  refine wpAnyW_takeL (i := 3) (v := ?_) (L := #[true, true, true, true, false, false, false, false, false, false, false, false, false, false, false, false, false, false, false]) (some 8) rfl (by kernel_rfl) (by kernel_rfl) (by kernel_rfl) (by kernel_rfl) (by kernel_rfl) (by kernel_rfl) (fun _ _ _ h => h) (by kernel_rfl) (by assumption) (by kernel_rfl) ?_ ?_
  rotate_left
  · (intro W1 hSw; (try dsimp only at hSw); go_simp; try with_reducible rfl)
  try simp only [Act.put, List.setIfInBounds_toArray, List.set_cons_zero, List.set_cons_succ]
  refine wpAnyW_takeL (i := 4) (v := ?_) (L := #[true, true, true, true, true, false, false, false, false, false, false, false, false, false, false, false, false, false, false]) (some 9) rfl (by kernel_rfl) (by kernel_rfl) (by kernel_rfl) (by kernel_rfl) (by kernel_rfl) (by kernel_rfl) (fun _ _ _ h => h) (by kernel_rfl) (by assumption) (by kernel_rfl) ?_ ?_
  rotate_left
  · (intro W1 hSw; (try dsimp only at hSw); go_simp; try with_reducible rfl)
  try simp only [Act.put, List.setIfInBounds_toArray, List.set_cons_zero, List.set_cons_succ]
  refine wpAnyW_takeL (i := 5) (v := ?_) (L := #[true, true, true, true, true, true, false, false, false, false, false, false, false, false, false, false, false, false, false]) (some 10) rfl (by kernel_rfl) (by kernel_rfl) (by kernel_rfl) (by kernel_rfl) (by kernel_rfl) (by kernel_rfl) (fun _ _ _ h => h) (by kernel_rfl) (by assumption) (by kernel_rfl) ?_ ?_
  rotate_left
  · (intro W1 hSw; (try dsimp only at hSw); go_simp; try with_reducible rfl)
  try simp only [Act.put, List.setIfInBounds_toArray, List.set_cons_zero, List.set_cons_succ]
  refine wpAnyW_takeL (i := 6) (v := ?_) (L := #[true, true, true, true, true, true, true, false, false, false, false, false, false, false, false, false, false, false, false]) (some 11) rfl (by kernel_rfl) (by kernel_rfl) (by kernel_rfl) (by kernel_rfl) (by kernel_rfl) (by kernel_rfl) (fun _ _ _ h => h) (by kernel_rfl) (by assumption) (by kernel_rfl) ?_ ?_
  rotate_left
  · (intro W1 hSw; (try dsimp only at hSw); go_simp; try with_reducible rfl)
  try simp only [Act.put, List.setIfInBounds_toArray, List.set_cons_zero, List.set_cons_succ]
  refine wpAnyW_takeL (i := 7) (v := ?_) (L := #[true, true, true, true, true, true, true, true, false, false, false, false, false, false, false, false, false, false, false]) (some 12) rfl (by kernel_rfl) (by kernel_rfl) (by kernel_rfl) (by kernel_rfl) (by kernel_rfl) (by kernel_rfl) (fun _ _ _ h => h) (by kernel_rfl) (by assumption) (by kernel_rfl) ?_ ?_
  rotate_left
  · (intro W1 hSw; (try dsimp only at hSw); go_simp; try with_reducible rfl)
  try simp only [Act.put, List.setIfInBounds_toArray, List.set_cons_zero, List.set_cons_succ]
  refine wpAnyW_takeL (i := 8) (v := ?_) (L := #[true, true, true, true, true, true, true, true, true, false, false, false, false, false, false, false, false, false, false]) (some 13) rfl (by kernel_rfl) (by kernel_rfl) (by kernel_rfl) (by kernel_rfl) (by kernel_rfl) (by kernel_rfl) (fun _ _ _ h => h) (by kernel_rfl) (by assumption) (by kernel_rfl) ?_ ?_
  rotate_left
  · (intro W1 hSw; (try dsimp only at hSw); go_simp; try with_reducible rfl)
  try simp only [Act.put, List.setIfInBounds_toArray, List.set_cons_zero, List.set_cons_succ]
  refine wpAnyW_takeL (i := 9) (v := ?_) (L := #[true, true, true, true, true, true, true, true, true, true, false, false, false, false, false, false, false, false, false]) (some 14) rfl (by kernel_rfl) (by kernel_rfl) (by kernel_rfl) (by kernel_rfl) (by kernel_rfl) (by kernel_rfl) (fun _ _ _ h => h) (by kernel_rfl) (by assumption) (by kernel_rfl) ?_ ?_
  rotate_left
  · (intro W1 hSw; (try dsimp only at hSw); go_simp; try with_reducible rfl)
  try simp only [Act.put, List.setIfInBounds_toArray, List.set_cons_zero, List.set_cons_succ]
  refine wpAnyW_takeL (i := 10) (v := ?_) (L := #[true, true, true, true, true, true, true, true, true, true, true, false, false, false, false, false, false, false, false]) (some 15) rfl (by kernel_rfl) (by kernel_rfl) (by kernel_rfl) (by kernel_rfl) (by kernel_rfl) (by kernel_rfl) (fun _ _ _ h => h) (by kernel_rfl) (by assumption) (by kernel_rfl) ?_ ?_
  rotate_left
  · (intro W1 hSw; (try dsimp only at hSw); go_simp; try with_reducible rfl)
  try simp only [Act.put, List.setIfInBounds_toArray, List.set_cons_zero, List.set_cons_succ]
  refine wpAnyW_takeL (i := 11) (v := ?_) (L := #[true, true, true, true, true, true, true, true, true, true, true, true, false, false, false, false, false, false, false]) (some 16) rfl (by kernel_rfl) (by kernel_rfl) (by kernel_rfl) (by kernel_rfl) (by kernel_rfl) (by kernel_rfl) (fun _ _ _ h => h) (by kernel_rfl) (by assumption) (by kernel_rfl) ?_ ?_
  rotate_left
  · (intro W1 hSw; (try dsimp only at hSw); go_simp; try with_reducible rfl)
  try simp only [Act.put, List.setIfInBounds_toArray, List.set_cons_zero, List.set_cons_succ]
  refine wpAnyW_takeL (i := 12) (v := ?_) (L := #[true, true, true, true, true, true, true, true, true, true, true, true, true, false, false, false, false, false, false]) (some 17) rfl (by kernel_rfl) (by kernel_rfl) (by kernel_rfl) (by kernel_rfl) (by kernel_rfl) (by kernel_rfl) (fun _ _ _ h => h) (by kernel_rfl) (by assumption) (by kernel_rfl) ?_ ?_
  rotate_left
  · (intro W1 hSw; (try dsimp only at hSw); go_simp; try with_reducible rfl)
  try simp only [Act.put, List.setIfInBounds_toArray, List.set_cons_zero, List.set_cons_succ]
  refine wpAnyW_takeL (i := 13) (v := ?_) (L := #[true, true, true, true, true, true, true, true, true, true, true, true, true, true, false, false, false, false, false]) (some 18) rfl (by kernel_rfl) (by kernel_rfl) (by kernel_rfl) (by kernel_rfl) (by kernel_rfl) (by kernel_rfl) (fun _ _ _ h => h) (by kernel_rfl) (by assumption) (by kernel_rfl) ?_ ?_
  rotate_left
  · (intro W1 hSw; (try dsimp only at hSw); go_simp; try with_reducible rfl)
  try simp only [Act.put, List.setIfInBounds_toArray, List.set_cons_zero, List.set_cons_succ]
  refine wpAnyW_takeL (i := 14) (v := ?_) (L := #[true, true, true, true, true, true, true, true, true, true, true, true, true, true, true, false, false, false, false]) (some 19) rfl (by kernel_rfl) (by kernel_rfl) (by kernel_rfl) (by kernel_rfl) (by kernel_rfl) (by kernel_rfl) (fun _ _ _ h => h) (by kernel_rfl) (by assumption) (by kernel_rfl) ?_ ?_
  rotate_left
  · (intro W1 hSw; (try dsimp only at hSw); go_simp; try with_reducible rfl)
  try simp only [Act.put, List.setIfInBounds_toArray, List.set_cons_zero, List.set_cons_succ]
  refine wpAnyW_takeL (i := 15) (v := ?_) (L := #[true, true, true, true, true, true, true, true, true, true, true, true, true, true, true, true, false, false, false]) (some 20) rfl (by kernel_rfl) (by kernel_rfl) (by kernel_rfl) (by kernel_rfl) (by kernel_rfl) (by kernel_rfl) (fun _ _ _ h => h) (by kernel_rfl) (by assumption) (by kernel_rfl) ?_ ?_
  rotate_left
  · (intro W1 hSw; (try dsimp only at hSw); go_simp; try with_reducible rfl)
  try simp only [Act.put, List.setIfInBounds_toArray, List.set_cons_zero, List.set_cons_succ]
  refine wpAnyW_takeL (i := 16) (v := ?_) (L := #[true, true, true, true, true, true, true, true, true, true, true, true, true, true, true, true, true, false, false]) (some 21) rfl (by kernel_rfl) (by kernel_rfl) (by kernel_rfl) (by kernel_rfl) (by kernel_rfl) (by kernel_rfl) (fun _ _ _ h => h) (by kernel_rfl) (by assumption) (by kernel_rfl) ?_ ?_
  rotate_left
  · (intro W1 hSw; (try dsimp only at hSw); go_simp; try with_reducible rfl)
  try simp only [Act.put, List.setIfInBounds_toArray, List.set_cons_zero, List.set_cons_succ]
  refine wpAnyW_takeL (i := 17) (v := ?_) (L := #[true, true, true, true, true, true, true, true, true, true, true, true, true, true, true, true, true, true, false]) (some 22) rfl (by kernel_rfl) (by kernel_rfl) (by kernel_rfl) (by kernel_rfl) (by kernel_rfl) (by kernel_rfl) (fun _ _ _ h => h) (by kernel_rfl) (by assumption) (by kernel_rfl) ?_ ?_
  rotate_left
  · (intro W1 hSw; (try dsimp only at hSw); go_simp; try with_reducible rfl)
  try simp only [Act.put, List.setIfInBounds_toArray, List.set_cons_zero, List.set_cons_succ]
  refine wpAnyW_takeL (i := 18) (v := ?_) (L := #[true, true, true, true, true, true, true, true, true, true, true, true, true, true, true, true, true, true, true]) (some 4) rfl (by kernel_rfl) (by kernel_rfl) (by kernel_rfl) (by kernel_rfl) (by kernel_rfl) (by kernel_rfl) (fun _ _ _ h => h) (by kernel_rfl) (by assumption) (by kernel_rfl) ?_ ?_
  rotate_left
  · (intro W1 hSw; (try dsimp only at hSw); go_simp; try with_reducible rfl)
  try simp only [Act.put, List.setIfInBounds_toArray, List.set_cons_zero, List.set_cons_succ]
  refine wpAnyW_done (by kernel_rfl) ?_ _
  refine NoPanic.normal ?_
  have FR := hide (to5 (by assumption))
  go_wp2_with fail
  go_ret
  exact ⟨rfl, (unhide FR).bel⟩

end Go.Proofs.Ytjdcolaefhheaaa
