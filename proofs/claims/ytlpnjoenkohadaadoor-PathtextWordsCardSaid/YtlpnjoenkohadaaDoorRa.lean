/-
  Walks over the reference of chapter 1: Digit, Normalize, IsNormalized, Cmp, FromUint64.
-/
import Derived.Test.YtlpnjoenkohadaaDoorWk
namespace Go.Proofs.YtlpnjoenkohadaaDoor
set_option linter.unusedVariables false
set_option linter.unusedSimpArgs false
open Go.RowKit

theorem own_lit (w : World) : (w.alloc (.cells #[] 90)).ownsRow w.heap.size 90 1 (.slice (some ⟨w.heap.size, 0, none⟩) 0 0) 0 (u32s []) := World.ownsRow_lit _ _ _ (Nat.le_refl _) (by unfold maxLen; omega) rfl
theorem below_lit (w : World) (o : Obj) : Below w.heap.size w (w.alloc o) := (Below.refl _ _).alloc (Nat.le_refl _) _
theorem snoc_own {w : World} {B k x : Nat} {v : Value} {l : List Nat} {X : Int} (h : w.ownsRow B 90 1 v (k + 1) (u32s l ++ [.int .u32 X])) (hX : X = (x : Int)) : w.ownsRow B 90 1 v (k + 1) (u32s (l ++ [x])) := by
  rw [u32s_append, show u32s [x] = [.int .u32 (x : Int)] from rfl, ← hX]; exact h
theorem val_snoc {l : List Nat} {k x : Nat} (hk : l.length = k) : val (l ++ [x]) = val l + x * pw k := by
  rw [val_append, val_one, hk, Nat.mul_comm]
theorem grown_below {w wr w2 : World} {v : Value} {n e s : Nat} {xs : List Value} {o : Obj} (hb : Below w.heap.size w wr) (hown : wr.ownsRow w.heap.size e s v n xs) (hg : (wr.alloc o).grownBy w2 v.ownBlock) : Below w.heap.size w w2 :=
  (hb.alloc hb.size _).grown hg (by have := hb.size; simp; omega) (fun k hk => (hown.lt k hk).1)

set_option maxRecDepth 100000 in
set_option maxHeartbeats 400000 in
theorem refDigit_c {A : Option Addr} {n c : Nat} {l : List Nat} (i : Int) (w : World) (h : In w A n c l) (h0 : 0 ≤ i) :
    Calls Tryd.prog 99 #[.slice A n c, .int .i64 i] w fun e w' => e = .returned (.int .u64 (dg l i.toNat : Nat)) ∧ w = w' := by
  obtain ⟨k, rfl⟩ := Int.eq_ofNat_of_zero_le h0
  have hn := h.lenI
  have hd := h.dig k
  by_cases hk : k < n
  · obtain ⟨ad, rfl, hc⟩ := h.at_ hk
    have hl := hide h.len
    have t1 : ¬ (k : Int) < 0 := by omega
    have t2 : ¬ (n : Int) ≤ (k : Int) := by omega
    clear h h0
    go_enter Tryd.func99, Tryd.ntmps99
    go_wp2_with fail
    go_ret
    exact ⟨rfl, rfl⟩
  · have hl := hide h.len
    have e : Hid (dg l k = 0) := dg_out (by rw [h.len]; omega)
    have t1 : ¬ (k : Int) < 0 := by omega
    have t2 : (n : Int) ≤ (k : Int) := by omega
    clear h h0
    go_enter Tryd.func99, Tryd.ntmps99
    go_wp2_with fail
    go_ret
    refine ⟨?_, rfl⟩
    rw [unhide e]; rfl

set_option maxRecDepth 100000 in
set_option maxHeartbeats 1000000 in
theorem refNormalize_c {A : Option Addr} {n c : Nat} {l : List Nat} (w : World) (h : In w A n c l) (hb : n ≤ 1099511627776) :
    Calls Tryd.prog 74 #[.slice A n c] w (RetL w (trim l)) := by
  have hn := h.lenI
  have ht := tlen_le l n
  have hle := h.len
  have htr : Hid (l.take (tlen l n) = trim l) := by show _ = _; rw [trim, hle]
  have HL := hide hle
  clear hle
  obtain ⟨p, hp⟩ : ∃ p, p = tlen l n := ⟨_, rfl⟩
  rw [← hp] at ht htr
  have HP := hide hp
  clear hp
  have H := hide h
  clear h
  obtain ⟨i0, hi0, hz0, hz1, hz2⟩ := info_parts Tryd.info_u32
  go_enter Tryd.func74, Tryd.ntmps74
  go_wp2_with fail
  go_loop [3] (fun i => ∃ k : Nat, k ≤ n ∧ i = .int .i64 k ∧ Hid (tlen l k = p)) (fun i => (intOf i).toNat)
  case atStart => exact ⟨n, Nat.le_refl _, rfl, (unhide HP).symm⟩
  case round =>
    obtain ⟨k, hk, rfl, ht⟩ := hrel
    by_cases hk0 : k = 0
    · have hkp : k = p := by rw [← unhide ht, hk0]; rfl
      have t0 : ¬ (0 : Int) < (k : Int) := by omega
      clear hk0
      go_wp2_with fail
      go_loopw [4, 5] (fun so si wx => ∃ i : Nat, i ≤ k ∧ si = .int .i64 i ∧ wx.ownsRow w.heap.size 90 1 so i (u32s (l.take i)) ∧ Below w.heap.size w wx) (fun _ si _ => k - (intOf si).toNat)
      case atStart => exact ⟨0, Nat.zero_le _, rfl, own_lit _, below_lit _ _⟩
      case round =>
        obtain ⟨i, hi, rfl, hownr, hbx⟩ := hrel
        by_cases hlt : i < k
        · exact absurd hlt (by omega)
        · obtain rfl : i = k := by omega
          go_wp2_with fail
          go_ret
          subst hkp
          rw [unhide htr] at hownr
          obtain ⟨A1, c1, rfl, ho⟩ := Own.of_row hownr (by rw [← unhide htr]; exact (unhide H).dig.take _) (by rw [← unhide htr, List.length_take, unhide HL]; omega)
          exact ⟨A1, _, c1, rfl, ho, hbx⟩
    · obtain ⟨j, hj⟩ : ∃ j, k = j + 1 := ⟨k - 1, by omega⟩
      obtain ⟨ad, rfl, hcell⟩ := (unhide H).at_ (k := j) (by omega)
      have t0 : (0 : Int) < (k : Int) := by omega
      have t1 : (k : Int) - 1 = (j : Int) := by omega
      have t2 : (j : Int) < (n : Int) := by omega
      by_cases hd : dg l j = 0
      · have t3 : ((dg l j : Int) == 0) = true := by simp [hd]
        have HD := hide hd
        clear hd
        go_wp2_with fail
        go_round
        case rel => exact ⟨j, by omega, rfl, by show _ = _; rw [← unhide ht, hj, tlen_step (unhide HD)]⟩
        case measure => simp [intOf]; omega
      · have t3 : ((dg l j : Int) == 0) = false := by simpa using hd
        have hkp : k = p := by rw [← unhide ht, hj, tlen_stop hd]
        clear hd
        go_wp2_with fail
        go_loopw [4, 5] (fun so si wx => ∃ i : Nat, i ≤ k ∧ si = .int .i64 i ∧ wx.ownsRow w.heap.size 90 1 so i (u32s (l.take i)) ∧ Below w.heap.size w wx) (fun _ si _ => k - (intOf si).toNat)
        case atStart => exact ⟨0, Nat.zero_le _, rfl, own_lit _, below_lit _ _⟩
        case round =>
          obtain ⟨i, hi, rfl, hownr, hbx⟩ := hrel
          by_cases hlt : i < k
          · obtain ⟨ad2, hA2, hcell2⟩ := ((unhide H).below hbx).at_ (k := i) (by omega)
            obtain rfl : ad = ad2 := by injection hA2
            have hsz := hbx.size
            have hik : (i : Int) < (n : Int) ∧ (i : Int) < (k : Int) := by omega
            go_wp2_with (first
              | (at_builtin; refine wpList_append_own_at _ rfl (.tmp 26) (.tmp 31) 62 rfl w.heap.size 90 i0 (.int .u32 0) 1 4 Tryd.underlying62 hi0 hz0 hz1 hz2 rfl (by decide) _ _ _ (by rfl) (hownr.alloc _) ⟨wr.heap.size, 0, none⟩ 1 1 [.int .u32 ((dg l i : Int))] rfl rfl (cell_one_new _ _ _) (by intro u hu; simp at hu; subst hu; rfl) (by simp only [maxLen]; omega) (by omega) (by simp; omega) ?_; intro v' w2 hown2 hg2 _ hat2))
            have hown3 := snoc_own hown2 rfl
            have hb2 := grown_below hbx hownr hg2
            clear hown2 hg2 hat2 hownr
            go_wp2_with fail
            go_roundw
            case rel =>
              refine ⟨i + 1, by omega, by go_num, ?_, hb2⟩
              rw [List.take_succ_eq_append_getElem (by rw [unhide HL]; omega), ← dg_in]
              exact hown3
            case measure => simp [intOf]; omega
          · obtain rfl : i = k := by omega
            go_wp2_with fail
            go_ret
            subst hkp
            rw [unhide htr] at hownr
            obtain ⟨A1, c1, rfl, ho⟩ := Own.of_row hownr (by rw [← unhide htr]; exact (unhide H).dig.take _) (by rw [← unhide htr, List.length_take, unhide HL]; omega)
            exact ⟨A1, _, c1, rfl, ho, hbx⟩


end Go.Proofs.YtlpnjoenkohadaaDoor
