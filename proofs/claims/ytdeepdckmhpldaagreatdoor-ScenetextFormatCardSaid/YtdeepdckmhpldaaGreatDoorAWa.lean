/-
 Functions of the package natural.
-/
import Derived.Test.YtdeepdckmhpldaaGreatDoorProg
import Derived.Test.YtdeepdckmhpldaaGreatDoorARd
namespace Go.Proofs.YtdeepdckmhpldaaGreatDoor
set_option maxRecDepth 100000
set_option maxHeartbeats 8000000
set_option linter.unusedVariables false
set_option linter.unusedSimpArgs false
open Go.RowKit
theorem Tryz.info_u32 : (Tryz.prog.info? 136).map (fun i => (i.zero, i.size, i.bytes)) = some (some (.int .u32 0), 1, 4) := by kernel_rfl
theorem In.capI {w : World} {A : Option Addr} {n c : Nat} {l : List Nat} (h : In w A n c l) : c ≤ 9223372036854775807 := by
 have := h.cap; unfold maxLen at this; omega
theorem In.lenI {w : World} {A : Option Addr} {n c : Nat} {l : List Nat} (h : In w A n c l) : n ≤ 9223372036854775807 := by
 have := h.capI; have := h.le; omega
theorem Yz {A : Option Addr} {n c : Nat} {l : List Nat} (i : Int) (w : World) (h : In w A n c l) (h0 : 0 ≤ i) :
 Calls Tryz.prog 297 #[.slice A n c, .int .i64 i] w fun e w' => e = .returned (.int .u64 (dg l i.toNat : Nat)) ∧ w = w' := by
 obtain ⟨k, rfl⟩ := Int.eq_ofNat_of_zero_le h0
 have hn := h.lenI
 have hd := h.dig k
 by_cases hk : k < n
 ·obtain ⟨ad, rfl, hc⟩ := h.at_ hk
  have hl := Kg h.len
  clear h h0
  go_enter Tryz.func297, Tryz.ntmps297
  go_wp2
  go_ret
  exact ⟨rfl, rfl⟩
 ·have hl := Kg h.len
  have e : Hid (dg l k = 0) := Sn (by rw [h.len]; omega)
  clear h h0
  go_enter Tryz.func297, Tryz.ntmps297
  go_wp2
  go_ret
  refine ⟨?_, rfl⟩
  rw [Int.toNat_natCast, K4 e]; rfl
theorem Lm {A : Option Addr} {n c : Nat} {l : List Nat} (w : World) (h : In w A n c l) :
 Calls Tryz.prog 126 #[.slice A n c] w fun e w' => e = .returned (.slice A (tlen l n) (tlen l n)) ∧ w = w' := by
 have hn := h.lenI
 have hc := h.capI
 have hnc := h.le
 have H := Kg h
 clear h
 go_enter Tryz.func126, Tryz.ntmps126
 go_wp2
 go_loop [3] (fun i => ∃ k : Nat, k ≤ n ∧ i = .int .i64 k ∧ tlen l k = tlen l n) (fun i => (intOf i).toNat)
 case atStart => exact ⟨n, Nat.le_refl _, rfl, rfl⟩
 case round =>
  obtain ⟨k, hk, rfl, ht⟩ := hrel
  have HT := Kg ht
  clear ht
  by_cases hk0 : k = 0
  ·subst hk0
   go_wp2
   go_ret
   have e := K4 HT
   rw [show tlen l 0 = 0 from rfl] at e
   refine ⟨?_, rfl⟩
   rw [← e]
   rfl
  ·obtain ⟨j, rfl⟩ : ∃ j, k = j + 1 := ⟨k - 1, by omega⟩
   obtain ⟨ad, rfl, hcell⟩ := (K4 H).at_ (k := j) Zo
   go_wp2
   ·have h0 : (((dg l j : Nat) : Int) == 0) = true := by assumption
    go_round
    case rel => exact ⟨j, by omega, rfl, by rw [← K4 HT, tlen_step]; simpa using h0⟩
    case measure => simp [intOf]
   ·have h0 : (((dg l j : Nat) : Int) == 0) = false := by assumption
    go_ret
    have e := K4 HT
    rw [tlen_stop (by simpa using h0)] at e
    refine ⟨?_, rfl⟩
    rw [← e]
    rfl
def RetL (w : World) (l : List Nat) (e : Ending) (w' : World) : Prop :=
 ∃ A n c, e = .returned (.slice A n c) ∧ Pk w' w.heap.size A n c l ∧ Below w.heap.size w w'
theorem clone_c {A : Option Addr} {n c : Nat} {l : List Nat} (w : World) (h : In w A n c l) (hb : n ≤ 1099511627776) :
 Calls Tryz.prog 187 #[.slice A n c] w (RetL w l) := by
 have hn := h.lenI
 have hc := h.capI
 have hnc := h.le
 have hr := Kg h.rd
 have hd := h.dig
 have hl := Kg h.len
 clear h
 obtain ⟨i0, hi0, hz0, hz1, hz2⟩ := info_parts Tryz.info_u32
 have hnil := fun W => Lib.run_eql_slice_nil (P := Tryz.prog) W 32 136 A n c 0 0 Tryz.underlying32
 by_cases hA : A = none
 ·have h0 : n = 0 := by
   rcases Nat.eq_zero_or_pos n with e | e
   ·exact e
   ·obtain ⟨ad, h, _⟩ := (K4 hr).2 e
    rw [hA] at h; cases h
  subst hA
  subst h0
  go_enter Tryz.func187, Tryz.ntmps187
  go_wp2
  go_ret
  have : l = [] := List.length_eq_zero_iff.1 (K4 hl)
  subst this
  exact ⟨none, 0, 0, rfl, Pk.nil_, Below.refl _ _⟩
 ·obtain ⟨ad, rfl⟩ : ∃ ad, A = some ad := by
   cases A with
   | none => exact absurd rfl hA
   | some ad => exact ⟨ad, rfl⟩
  clear hA
  go_enter Tryz.func187, Tryz.ntmps187
  go_wp2_with (first
   | (at_builtin; refine wpList_append_any _ rfl (.tmp 5) (.tmp 6) 32 rfl w.heap.size 136 i0 _ 1 4 Tryz.underlying32 hi0 hz0 hz1 hz2 rfl Zo (.slice (some ⟨w.heap.size, 0, none⟩) 0 0) 0 [] rfl (World.ownsRow_lit _ _ _ (Nat.le_refl _) (by unfold maxLen; omega) rfl) w.heap.size (some ad) n c (Nf l) rfl ((K4 hr).alloc (Nat.le_refl _) _) u32s_one (by simp only [maxLen]; omega) Zo Zs ?_; intro v1 w1 hown1 hg1 hat1))
  go_ret
  simp only [Nat.zero_add, List.nil_append] at hown1
  obtain ⟨A1, c1, rfl, ho⟩ := Pk.of_row hown1 hd (K4 hl)
  exact ⟨A1, n, c1, rfl, ho, ((Below.refl _ _).alloc (Nat.le_refl _) _).grown hg1 Zs (fun k hk => by simp [Value.ownBlock] at hk; omega)⟩
theorem Tv {A : Option Addr} {n c : Nat} {l : List Nat} (w : World) (h : In w A n c l) (hb : n ≤ 1099511627776) :
 Calls Tryz.prog 129 #[.slice A n c] w (RetL w (trim l)) := by
 have ht := Mu l n
 go_enter Tryz.func129, Tryz.ntmps129
 go_wp2_with fail
 refine (Lm w h).mono ?_
 rintro e w' ⟨rfl, rfl⟩
 go_wp2_with fail
 refine (clone_c w h.trim Zo).mono ?_
 rintro e w' ⟨A1, n1, c1, rfl, ho, hw⟩
 go_wp2_with fail
 go_ret
 exact ⟨A1, n1, c1, rfl, ho, hw⟩
theorem two_digits (k : Nat) (hk : (k : Int) ≤ 18446744073709551615) : M9 [k % 4294967296, k / 4294967296] ∧ val [k % 4294967296, k / 4294967296] = k := by
 refine ⟨M9.cons Zo (M9.one Zo), ?_⟩
 simp only [val]; omega
theorem Sx (k : Nat) (hk : (k : Int) ≤ 18446744073709551615) (w : World)  :
 Calls Tryz.prog 69 #[.int .u64 k] w (Ry w k) := by
 go_enter Tryz.func69, Tryz.ntmps69
 go_wp2_with fail
 have hmk : Mk (w.alloc (.cells #[.int .u32 ((k : Int) % 4294967296), .int .u32 ((k : Int) / 4294967296)] 136)) w.heap.size 136 [k % 4294967296, k / 4294967296] := X9.new w 136 _
 have h2 := two_digits k hk
 have ho := hmk.own (B := w.heap.size) h2.1 (Nat.le_refl _) (by simp [maxLen])
 refine (Tv _ ho.toIn Zs).mono ?_
 rintro e w' ⟨A1, n1, c1, rfl, ho1, hw⟩
 clear hmk ho
 go_wp2_with fail
 go_ret
 exact ⟨A1, n1, c1, _, rfl, Kq h2.1, by rw [Kf, h2.2], ho1.base Zs, ((Below.refl _ _).alloc (Nat.le_refl _) _).trans (hw.mono Zs)⟩
def zs (n : Nat) : Array Value := (Nf (List.replicate n 0)).toArray
theorem Mb (W : World) (k : Int) (N : Nat) (hk : k = N) (hN : N ≤ 17592186044416) :
 (Instr.makeSlice 32 (.int .i64 k) (.int .i64 k)).run Tryz.prog W = .ok (.slice (some ⟨W.heap.size, 0, none⟩) N N) (W.alloc (.cells (zs N) 136)) := by
 subst hk
 obtain ⟨i0, hi0, hz0, hz1, hz2⟩ := info_parts Tryz.info_u32
 rw [run_make W 32 136 i0 _ Tryz.underlying32 hi0 hz0 .i64 .i64 N N Zo Zo (by rw [hz2]; omega) Zo, hz1, Int.toNat_natCast, Nat.mul_one]
 congr 3
 apply Array.ext
 ·simp [zs, size_madeCells, Nf]
 ·intro i h1 h2
  simp [madeCells, zs, Nf, Value.cells, Nat.mod_one]
theorem Mk.zero (W : World) (N : Nat) : Mk (W.alloc (.cells (zs N) 136)) W.heap.size 136 (List.replicate N 0) := X9.new W 136 _
theorem add_c {A B : Option Addr} {n c m d : Nat} {a b : List Nat} (w : World) (ha : In w A n c a) (hb : In w B m d b) (hn : n ≤ 1099511627776) (hm : m ≤ 1099511627776) :
 Calls Tryz.prog 272 #[.slice A n c, .slice B m d] w (Ry w (val a + val b)) := by
 have Ha := Kg ha
 have Hb := Kg hb
 clear ha hb
 obtain ⟨N, h1, h2, hN, h3⟩ : ∃ N, n ≤ N ∧ m ≤ N ∧ N ≤ 1099511627776 ∧ ((n < m → N = m) ∧ (¬ n < m → N = n)) := ⟨max n m, by omega, by omega, by omega, by omega, by omega⟩
 have H3 := Kg h3
 clear h3
 have hmk := fun W => Mb W (N + 1) (N + 1) rfl Zo
 go_enter Tryz.func272, Tryz.ntmps272
 go_wp2_with fail
 all_goals
  first
   | (have e := (K4 H3).1 (by assumption); subst e)
   | (have e := (K4 H3).2 (by assumption); subst e)
  clear H3
  go_simp
  go_wp2
  have hM := Mk.zero w (N + 1)
  go_loopw [6, 17] (fun cy i wr => ∃ (k y : Nat) (o : List Nat), k ≤ N + 1 ∧ i = .int .i64 k ∧ cy = .int .u64 y ∧ o.length = N + 1 ∧ M9 o ∧ y ≤ 1 ∧ lo o k + y * pw k = lo a k + lo b k ∧ Mk wr w.heap.size 136 o ∧ Below w.heap.size w wr) (fun _ i _ => N + 1 - (intOf i).toNat)
  case atStart => exact ⟨0, 0, _, Nat.zero_le _, rfl, rfl, by simp, M9.replicate _, by omega, by simp [Md], hM, (Below.refl _ _).alloc (Nat.le_refl _) _⟩
  case round =>
   obtain ⟨k, y, o, hk, rfl, rfl, hol, hod, hy, hsum, hmk, hbw⟩ := hrel
   clear hM
   have Hol := Kg hol
   have Hsum := Kg hsum
   clear hol hsum
   by_cases hlt : k < N + 1
   ·have hda := (K4 Ha).dig k
    have hdb := (K4 Hb).dig k
    have hcell := hmk.cell (i := k) (by rw [K4 Hol]; exact hlt)
    have hfz := hmk.frozen k
    go_wp2_with fail
    refine (Yz _ _ ((K4 Ha).below hbw) Zo).mono ?_
    rintro e w' ⟨rfl, rfl⟩
    go_wp2_with fail
    refine (Yz _ _ ((K4 Hb).below hbw) Zo).mono ?_
    rintro e w' ⟨rfl, rfl⟩
    go_wp2
    have hst := hmk.set_ k ((y + (dg a k + dg b k)) % 4294967296)
    rw [show (((y + (dg a k + dg b k)) % 4294967296 : Nat) : Int) = ((y : Int) + (dg a k + dg b k)) % 4294967296 by omega] at hst
    go_roundw
    case rel => exact ⟨k + 1, (y + (dg a k + dg b k)) / 4294967296, _, by omega, by go_num, by go_num, by rw [List.length_set]; exact K4 Hol, hod.set _ Zo, by omega, add_step (by rw [K4 Hol]; exact hlt) (K4 Hsum), hst, hbw.setCell (Nat.le_refl _) _⟩
    case measure => simp [intOf]; omega
   ·have hk' : k = N + 1 := by omega
    subst hk'
    have ho := hmk.own hod (Nat.le_refl _) (by rw [K4 Hol]; unfold maxLen; omega)
    rw [K4 Hol] at ho
    go_wp2_with fail
    refine (Lm _ ho.toIn).mono ?_
    rintro e w' ⟨rfl, rfl⟩
    go_wp2_with fail
    go_ret
    have ha := K4 Ha
    have hb := K4 Hb
    exact ⟨_, _, _, trim o, rfl, Kq hod, by rw [Kf]; exact add_end (K4 Hol) ha.dig hb.dig (by rw [ha.len]; omega) (by rw [hb.len]; omega) (K4 Hsum), ho.trim, hbw⟩
end Go.Proofs.YtdeepdckmhpldaaGreatDoor
