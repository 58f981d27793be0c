/-
 The reference's functions of numbers.
-/
import Derived.Test.YtdeepdckmhpldaaGreatDoorAWk
import Derived.Test.YtdeepdckmhpldaaGreatDoorARdd
import Derived.Test.YtdeepdckmhpldaaGreatDoorALit
namespace Go.Proofs.YtdeepdckmhpldaaGreatDoor
set_option maxRecDepth 100000
set_option maxHeartbeats 8000000
set_option linter.unusedVariables false
set_option linter.unusedSimpArgs false
open Go.RowKit
theorem own_lit8 (w : World) {B : Nat} (hB : B ≤ w.heap.size) : (w.alloc (.cells #[] 5)).ownsRow B 5 1 (.slice (some ⟨w.heap.size, 0, none⟩) 0 0) 0 (u8s []) := World.ownsRow_lit _ _ _ hB (by unfold maxLen; omega) rfl
theorem snoc_own8 {w : World} {B k : Nat} {b : UInt8} {v : Value} {l : List UInt8} {X : Int} (h : w.ownsRow B 5 1 v (k + 1) (u8s l ++ [.int .u8 X])) (hX : X = (b.toNat : Int)) : w.ownsRow B 5 1 v (k + 1) (u8s (l ++ [b])) := by
 rw [Zv, show u8s [b] = [.int .u8 (b.toNat : Int)] from rfl, ← hX]; exact h
theorem refFormat_c {A : Option Addr} {n c : Nat} {a : List Nat} (w : World) (ha : In w A n c a) (hn : n ≤ 1073741824) :
 Calls Tryz.prog 79 #[.slice A n c] w fun e w' => e = .returned (K3 (Nr (val a))) ∧ Below w.heap.size w w' := by
 have na := Kq ha.dig
 have va : Hid (val (trim a) = val a) := Kf a
 have htl : (trim a).length ≤ n := by have := Mq a; have := ha.len; omega
 have hlen : Hid ((decR (val a)).length ≤ 10 * n) := decR_length (Nat.lt_of_lt_of_le (Lt ha.dig (Nat.le_of_eq ha.len)) (pw_le_ten n))
 obtain ⟨i0, hi0, hz0, hz1, hz2⟩ := info_parts Tryz.info_u8
 go_enter Tryz.func79, Tryz.ntmps79
 go_wp2_with fail
 refine (La w ha Zo).mono ?_
 rintro e w1 ⟨A1, p, c1, rfl, ho1, hw1⟩
 have hp : p ≤ n := by have := ho1.len; omega
 have hl1 := ho1.len
 by_cases h0 : p = 0
 ·have hv0 : Hid (val a = 0) := by
   show _ = _
   rw [← K4 va, List.length_eq_zero_iff.1 (hl1.trans h0)]; rfl
  subst h0
  clear hl1
  go_wp2_with fail
  go_ret
  refine ⟨?_, hw1⟩
  rw [K4 hv0]
  rfl
 ·have hav0 : val a ≠ 0 := by
   intro h
   rw [← K4 va] at h
   rw [na.zero h] at hl1
   simp only [List.length_nil] at hl1
   omega
  have HV := Kg hav0
  have l0 : ((p : Int) == 0) = false := by simp; omega
  have it := ho1.toIn
  clear h0 hav0 hl1 ho1 ha
  go_wp2_with fail
  go_loopg [3, 4] (val a) (fun gk sa sb wx => ∃ (X : Option Addr) (q r : Nat) (x : List Nat) (bs : List UInt8), sa = .slice X q r ∧ In wx X q r x ∧ q ≤ n ∧ M4 x ∧ Hid (val x = gk ∧ decR (val a) = bs ++ decR (val x)) ∧ bs.length ≤ 10 * n ∧ wx.ownsRow w.heap.size 5 1 sb bs.length (u8s bs) ∧ Below w.heap.size w wx)
  case atStart =>
   exact ⟨A1, p, c1, trim a, [], rfl, it.below (Pb _ _), hp, na, ⟨K4 va, by rw [K4 va]; rfl⟩, Nat.zero_le _, own_lit8 w1 hw1.size, hw1.alloc hw1.size _⟩
  case round =>
   clear it hw1
   obtain ⟨X, q, r, x, bs, rfl, hxi, hq, nx, hI, hbl, hown, hbx⟩ := hrel
   have hqi := hxi.lenI
   have hsz := hbx.size
   by_cases hq0 : q = 0
   ·have hd : Hid (decR (val a) = bs) := by
     have h1 := (K4 hI).2
     rw [List.length_eq_zero_iff.1 (hxi.len.trans hq0), R0, V0, List.append_nil] at h1
     exact h1
    have hbs : 0 < bs.length := by
     rcases Nat.eq_zero_or_pos bs.length with h | h
     ·have h1 := K4 hd
      rw [List.length_eq_zero_iff.1 h, Q6 (K4 HV)] at h1
      cases h1
     ·exact h
    obtain ⟨g, cap, hv, hgB, hgn, hgm, hrow⟩ := Rx.of_row hown hbs
    have hglt := hrow.lt
    have hcm : cap ≤ 9223372036854775807 := by unfold maxLen at hgm; omega
    subst hq0
    subst hv
    clear hown hI
    obtain ⟨L, hL⟩ : ∃ L, L = bs.length := ⟨_, rfl⟩
    rw [← hL] at hbs hbl hgn ⊢
    have HLL := Kg hL
    clear hL
    go_wp2_with fail
    obtain ⟨wm, rfl⟩ : ∃ wm : World, wm = wr := ⟨_, rfl⟩
    go_loopw [7, 8] (fun so si wx => ∃ (k : Nat) (z : Int) (o : List UInt8), k ≤ L ∧ z + 1 = k ∧ si = .int .i64 z ∧ Hid (o = (bs.drop k).reverse) ∧ o.length + k = L ∧ wx.ownsRow wm.heap.size 5 1 so o.length (u8s o) ∧ Below wm.heap.size wm wx) (fun _ si _ => (intOf si + 1).toNat)
    case atStart => exact ⟨L, (L : Int) - 1, [], Nat.le_refl _, by omega, rfl, (by show _ = _; rw [List.drop_of_length_le (by rw [K4 HLL]; exact Nat.le_refl _)]; rfl), by simp, own_lit8 wm (Nat.le_refl _), Pb _ _⟩
    case round =>
     obtain ⟨k, z, o, hk, hz, rfl, hO, hol, hownr, hbr⟩ := hrel
     have hsr := hbr.size
     by_cases hk0 : k = 0
     ·subst hk0
      obtain rfl : z = -1 := by omega
      clear hz
      have hoe : Hid (o = bs.reverse) := by have := K4 hO; rw [List.drop_zero] at this; exact this
      obtain ⟨g2, cap2, hv2, hgB2, hgn2, hgm2, hrow2⟩ := Rx.of_row hownr Zo
      subst hv2
      have hconv := run_convert_bytes_back (P := Tryz.prog) wr 86 9 5 ⟨g2, 0, none⟩ cap2 o Tryz.underlying86 Tryz.underlying5 Tryz.underlying9 (fun j hj => by
       rw [add_off, Nat.zero_add, hrow2.cell (by rw [Qp]; exact hj), Yh hj])
      go_wp2_with fail
      go_ret
      refine ⟨?_, hbx.trans (hbr.mono hbx.size)⟩
      rw [Nr, if_neg (K4 HV), K4 hd, ← K4 hoe]
      rfl
     ·obtain ⟨j, rfl⟩ : ∃ j, k = j + 1 := ⟨k - 1, by omega⟩
      obtain rfl : z = (j : Int) := by omega
      clear hz hk0
      have hjb : j < bs.length := by have := K4 HLL; omega
      have hcell := (hrow.below hbr hglt).cell (i := j) (by rw [Qp]; exact hjb)
      rw [Yh hjb] at hcell
      obtain ⟨b, hb⟩ : ∃ b, b = bs[j] := ⟨_, rfl⟩
      rw [← hb] at hcell
      have hO2 : Hid (o ++ [b] = (bs.drop j).reverse) := by
       show _ = _
       rw [List.drop_eq_getElem_cons hjb, List.reverse_cons, ← hb, K4 hO]
      have HJ := Kg hjb
      have hjL : (j : Int) < (L : Int) := by omega
      have hcl : L ≤ cap := hgn
      clear hb hjb
      go_wp2_with (first
       | (at_builtin; refine wpList_append_own_at _ rfl (.tmp 38) (.tmp 43) 86 rfl wm.heap.size 5 i0 (.int .u8 0) 1 1 Tryz.underlying86 hi0 hz0 hz1 hz2 rfl Zd _ _ _ (by rfl) (hownr.alloc _) ⟨wr.heap.size, 0, none⟩ 1 1 [.int .u8 _] rfl rfl (cell_one_new _ _ _) (by intro u hu; simp at hu; subst hu; rfl) (by simp only [maxLen]; omega) Zo Zp ?_; intro v' w2 hown2 hg2 _ hat2))
      have hown3 := snoc_own8 (b := b) hown2 rfl
      have hb2 : Below wm.heap.size wm w2 := Nc hbr hownr hg2
      clear hown2 hg2 hat2 hownr
      go_wp2_with fail
      go_roundw
      case rel => exact ⟨j, (j : Int) - 1, o ++ [b], by omega, by omega, rfl, hO2, by rw [List.length_append]; simp; omega, by rw [List.length_append]; exact hown3, hb2⟩
      case measure => simp [intOf]
   ·have hqp : (0 : Int) < (q : Int) := by omega
    have hx0 : val x ≠ 0 := by
     intro h
     have h1 := nx.zero h
     have h2 := hxi.len
     rw [h1] at h2
     simp only [List.length_nil] at h2
     omega
    have hstep := Q6 hx0
    have hlt10 : val x / 10 < val x := Nat.div_lt_self Zo Zo
    have hbl2 : bs.length + 1 ≤ 10 * n := by
     have h1 := K4 hlen
     rw [(K4 hI).2, hstep, List.length_append, List.length_cons] at h1
     omega
    have HX := Kg (And.intro hx0 (And.intro hstep hlt10))
    clear hx0 hstep hlt10 hq0
    go_wp2_with fail
    refine (refTenth_c wr hxi Zo).mono ?_
    rintro e w1 ⟨A1, n1, c1, l1, rfl, hN1, hv1, ho1, hw1⟩
    have hownk := hown.kept (row := none) (Zb hw1 none) (by cases u4.ownBlock <;> simp)
    have hb1 := hbx.trans (hw1.mono hbx.size)
    have hs1 := hb1.size
    have hn1 : n1 ≤ n := by
     have h1 := hN1.length_le (k := q) (by rw [hv1]; exact Nat.lt_of_le_of_lt (Nat.div_le_self _ _) (Lt hxi.dig (Nat.le_of_eq hxi.len)))
     have := ho1.len; omega
    obtain ⟨D, hD⟩ : ∃ D, D = val x % 10 := ⟨_, rfl⟩
    have hD10 : D < 10 := by omega
    rw [← hD]
    have HD := Kg hD
    clear hD
    go_wp2_with (first
     | (at_builtin; refine wpList_append_own_at _ rfl (.tmp 23) (.tmp 27) 86 rfl w.heap.size 5 i0 (.int .u8 0) 1 1 Tryz.underlying86 hi0 hz0 hz1 hz2 rfl Zd _ _ _ (by rfl) (hownk.alloc _) ⟨w1.heap.size, 0, none⟩ 1 1 [.int .u8 _] rfl rfl (cell_one_new _ _ _) (by intro u hu; simp at hu; subst hu; rfl) (by simp only [maxLen]; omega) Zo Zp ?_; intro v' w2 hown2 hg2 _ hat2))
    have hown3 := snoc_own8 (b := chr D) hown2 (by rw [Rv hD10]; omega)
    have hb2 : Below w.heap.size w w2 := (hb1.alloc hs1 _).grown hg2 Zp (fun k hk => (hownk.lt k hk).1)
    have hmid : Pk w2 wr.heap.size A1 n1 c1 l1 := ho1.mid (by have := hg2.size; simp at this; omega) (fun k h1 h2 => by
     rw [hg2.block k Zp (fun e => by have := (hown.lt k e.symm).2; omega), Below.heap_alloc _ _ _ Zo])
    clear hown2 hg2 hat2 hownk
    go_wp2_with fail
    go_roundg (val l1)
    case measure => rw [hv1]; have := (K4 HX).2.2; have := (K4 hI).1; omega
    case rel =>
     obtain ⟨h1, h2, h3⟩ := K4 HX
     refine ⟨A1, n1, c1, l1, bs ++ [chr D], rfl, hmid.toIn, hn1, hN1, ⟨rfl, ?_⟩, by rw [List.length_append]; exact hbl2, by rw [List.length_append]; exact hown3, hb2⟩
     rw [(K4 hI).2, h2, hv1, K4 HD, List.append_assoc]; rfl
end Go.Proofs.YtdeepdckmhpldaaGreatDoor
