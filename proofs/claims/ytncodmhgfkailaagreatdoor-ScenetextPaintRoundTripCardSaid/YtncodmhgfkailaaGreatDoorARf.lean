/-
 The reference's functions of numbers.
-/
import Derived.Test.YtncodmhgfkailaaGreatDoorAWl
import Derived.Test.YtncodmhgfkailaaGreatDoorARdd
import Derived.Test.YtncodmhgfkailaaGreatDoorARe
namespace Go.Proofs.YtncodmhgfkailaaGreatDoor
set_option maxRecDepth 100000
set_option maxHeartbeats 8000000
set_option linter.unusedVariables false
set_option linter.unusedSimpArgs false
open Go.RowKit
theorem refParse_c (s : ByteArray) (hs : s.size ≤ 9223372036854775807) (w : World) :
 Calls Tryz.prog 289 #[.string s] w (Mt w s.data.toList) := by
 have hsl : s.data.toList.length = s.size := by simp
 obtain ⟨l, hl⟩ : ∃ l, l = s.data.toList := ⟨_, rfl⟩
 rw [← hl] at hsl ⊢
 have HL := Kj (And.intro hl hsl)
 have hat : Hid (∀ k (h : k < s.size), l[k]? = some s[k]) := fun k h => by rw [hl]; exact byte_at s h
 clear hl hsl
 by_cases hem : s.size = 0
 ·have hln : l = [] := List.length_eq_zero_iff.1 (by rw [(K3 HL).2]; exact hem)
  have t1 : s.toList = [] := by rw [ByteArray.toList_eq, ← (K3 HL).1, hln]
  have t2 : (!s.toList.isEmpty) = false := by rw [t1]; rfl
  have t3 : s.toList.isEmpty = true := by rw [t1]; rfl
  have hbad : Hid (Ks l = 3) := by
   show _ = _
   rw [hln]; rfl
  have Hm := Kj (And.intro hem hln)
  clear hem hln
  go_enter Tryz.func289, Tryz.ntmps289
  go_wp2_with fail
  go_ret2
  exact Mt.bad (K3 hbad) Zd rfl
 ·have hpos : 0 < s.size := by omega
  have hln : l ≠ [] := by
   intro e
   have := (K3 HL).2
   rw [e] at this
   simp only [List.length_nil] at this
   omega
  have hhd : Hid (l.head? = some s[0]) := by
   show _ = _
   rw [← K3 hat 0 hpos, List.head?_eq_getElem?]
  have t0 : s.toList ≠ [] := by rw [ByteArray.toList_eq, ← (K3 HL).1]; exact hln
  have t3 : s.toList.isEmpty = false := by
   rcases hx : s.toList.isEmpty with _ | _
   ·rfl
   ·exact absurd (List.isEmpty_iff.1 hx) t0
  have Hn := Kj hln
  clear hem hln t0
  by_cases hz : s[0] = 48 ∧ 1 < s.size
  ·have t4 : ((s[0].toNat : Int) == 48) = true := by rw [hz.1]; rfl
   have t5 : (1 : Int) < (s.size : Int) := by omega
   have hbad : Hid (Ks l = 3) := by
    show _ = _
    unfold Ks
    split
    ·rfl
    ·rw [if_pos (Or.inr ⟨by rw [K3 hhd, hz.1], by rw [(K3 HL).2]; exact hz.2⟩)]
   clear hz
   go_enter Tryz.func289, Tryz.ntmps289
   go_wp2_with fail
   go_ret2
   exact Mt.bad (K3 hbad) Zd rfl
  ·have hok2 : Hid (¬ (l = [] ∨ (l.head? = some 48 ∧ 1 < l.length))) := by
    rintro (h | ⟨h1, h2⟩)
    ·exact K3 Hn h
    ·rw [K3 hhd] at h1
     injection h1 with h1
     exact hz ⟨h1, by rw [← (K3 HL).2]; exact h2⟩
   have hcase : ((1 : Int) < (s.size : Int) ∧ ((s[0].toNat : Int) == 48) = false) ∨ ¬ (1 : Int) < (s.size : Int) := by
    by_cases h : 1 < s.size
    ·left
     refine ⟨by omega, ?_⟩
     simp
     intro e
     exact hz ⟨UInt8.toNat_inj.1 (by simpa using (by omega : s[0].toNat = 48)), h⟩
    ·right; omega
   clear hz
   obtain ⟨i0, hi0, hz0, hz1, hz2⟩ := info_parts Tryz.info_u32
   have hpe : Hid (isDB l = true → 1000 < s.size → Ks l = 5) := by
    intro hdb h
    rw [Ks, if_neg (by rw [hdb]; decide), if_neg (K3 hok2), if_pos (by rw [(K3 HL).2]; exact h)]
   have hpz : Hid (isDB l = true → ¬ 1000 < s.size → Ks l = 0) := by
    intro hdb h
    rw [Ks, if_neg (by rw [hdb]; decide), if_neg (K3 hok2), if_neg (by rw [(K3 HL).2]; exact h)]
   rcases hcase with ⟨t5, t4⟩ | t5
   all_goals
    go_enter Tryz.func289, Tryz.ntmps289
    go_wp2_with fail
    go_loop [4] (fun si => ∃ k : Nat, k ≤ s.size ∧ si = .int .i64 k ∧ Hid (∀ (j : Nat) (b : UInt8), j < k → l[j]? = some b → 48 ≤ b.toNat ∧ b.toNat < 58)) (fun si => s.size - (intOf si).toNat)
    case atStart => exact ⟨0, Nat.zero_le _, rfl, fun j b hj => absurd hj Zo⟩
    case round =>
     obtain ⟨k, hk, rfl, hI⟩ := hrel
     by_cases hlt : k < s.size
     ·have tk : (k : Int) < (s.size : Int) := by omega
      by_cases hd : 48 ≤ s[k].toNat ∧ s[k].toNat < 58
      ·obtain ⟨d1, d2⟩ := hd
       have t1 : ¬ ((s[k].toNat : Int) < 48) := by omega
       have t2 : ¬ ((57 : Int) < (s[k].toNat : Int)) := by omega
       go_wp2_with fail
       go_round
       case rel =>
        refine ⟨k + 1, by omega, by go_num, fun j b hj hb => ?_⟩
        by_cases e : j = k
        ·subst e
         rw [K3 hat j hlt] at hb
         injection hb with hb
         subst hb
         exact ⟨d1, d2⟩
        ·exact K3 hI j b Zo hb
       case measure => simp [intOf]; omega
      ·have hbad : Hid (Ks l = 3) := by
        show _ = _
        rw [Ks, if_pos (isDB_bad (K3 hat k hlt) hd)]
       by_cases h1 : s[k].toNat < 48
       ·have t1 : ((s[k].toNat : Int) < 48) := by omega
        clear hd h1
        go_wp2_with fail
        go_ret2
        exact Mt.bad (K3 hbad) Zd rfl
       ·have t1 : ¬ ((s[k].toNat : Int) < 48) := by omega
        have t2 : ((57 : Int) < (s[k].toNat : Int)) := by omega
        clear hd h1
        go_wp2_with fail
        go_ret2
        exact Mt.bad (K3 hbad) Zd rfl
     ·obtain rfl : k = s.size := by omega
      have hdb : Hid (isDB l = true) := isDB_good fun j b hb => K3 hI j b (by
       have := (List.getElem?_eq_some_iff.1 hb).1
       have := (K3 HL).2; omega) hb
      clear hI hlt
      by_cases hbig : 1000 < s.size
      ·have t6 : (1000 : Int) < (s.size : Int) := by omega
       have hbad : Hid (Ks l = 5) := K3 hpe (K3 hdb) hbig
       go_wp2_with fail
       go_ret2
       exact Mt.bad (K3 hbad) Zd rfl
      ·have t6 : ¬ (1000 : Int) < (s.size : Int) := by omega
       have hgood : Hid (Ks l = 0) := K3 hpz (K3 hdb) hbig
       clear hpe hpz hok2 hhd
       go_wp2_with fail
       go_loopw [5, 6] (fun sa si wx => ∃ (k : Nat) (X : Option Addr) (p r : Nat) (x : List Nat), k ≤ s.size ∧ si = .int .i64 k ∧ sa = .slice X p r ∧ O7 wx w.heap.size X p r x ∧ M0 x ∧ p ≤ k ∧ Hid (val x = rdv (l.take k)) ∧ Below w.heap.size w wx) (fun _ si _ => s.size - (intOf si).toNat)
       case atStart => exact ⟨0, _, 0, 0, [], Nat.zero_le _, rfl, rfl, own_empty w, M0.nil, Nat.le_refl _, rfl, Ni _ _⟩
       case round =>
        obtain ⟨k, X, p, r, x, hk, rfl, rfl, hox, nx, hp, hv, hbx⟩ := hrel
        by_cases hlt : k < s.size
        ·have hdig : 48 ≤ s[k].toNat ∧ s[k].toNat < 58 := (isDB_iff l).1 (K3 hdb) _ (List.mem_of_getElem? (K3 hat k hlt))
         obtain ⟨g1, g2⟩ := hdig
         obtain ⟨D, hD⟩ : ∃ D, D = s[k].toNat - 48 := ⟨_, rfl⟩
         have hD9 : D < 10 := by omega
         have g3 : (48 : Int) ≤ (s[k].toNat : Int) ∧ (s[k].toNat : Int) < 58 := by omega
         have hkl : (k : Int) < (s.size : Int) := by omega
         have e1 : IntKind.u8.wrap ((s[k].toNat : Int) - 48) = (D : Int) := by rw [IntKind.wrap_u8']; omega
         have e3 : IntKind.u8.wrap (D : Int) = (D : Int) := by rw [IntKind.wrap_u8']; omega
         have e4 : IntKind.u32.wrap (D : Int) = (D : Int) := by rw [IntKind.wrap_u32]; omega
         have e2 : (s[k].toNat : Int) - 48 = (D : Int) := by omega
         have HD := Kj hD
         clear hD
         have hk1000 : k ≤ 1000 := by omega
         have hsm1 : Hid (∀ (n2 : Nat) (l2 : List Nat), M0 l2 → l2.length = n2 → val l2 = val x * 10 → n2 ≤ 1001) := by
          intro n2 l2 h1 h2 h3
          have h4 := Lj hox.dig (Nat.le_trans (Nat.le_of_eq hox.len) hp)
          have h5 := h1.length_le (k := k + 1) (by rw [h3, Lm]; omega)
          omega
         go_wp2_with fail
         go_region_with (first
          | (go_at_call 309; refine (refTimes_c 10 _ (by first | exact hox.drew.toIn | exact hox.drew.toIn.below (Ni _ _)) Zo Zo).mono ?_; rintro e w2 ⟨A2, n2, c2, l2, rfl, hN2, hv2, ho2, hw2⟩)
          | (go_at_call 279; refine (refAdd_c (a := l2) (b := [D]) _ (by first | exact ho2.toIn.below (Ni _ _) | exact ho2.toIn) (by first | exact in_lit _ [D] 1 _ rfl (M7.one Zo) rfl Zo | exact In.below (w := wr.drew.alloc (.cells #[.int .u32 (D : Int)] 218)) (in_lit wr.drew [D] 1 #[.int .u32 (D : Int)] rfl (M7.one Zo) rfl Zo) hw2) ?_ ?_).mono ?_; (exact Nat.le_trans (K3 hsm1 n2 l2 hN2 ho2.len hv2) Zo); (omega); rintro e w4 ⟨A4, n4, c4, l4, rfl, hN4, hv4, ho4, hw4⟩))
         all_goals
          go_wp2_with fail
          go_roundw
          case rel =>
           have hb2 : Below w.heap.size w w2 := by
            first
             | exact (Lp hbx 1).trans (hw2.mono hbx.size)
             | exact ((Lp hbx 1).alloc hbx.size _).trans (hw2.mono (by have := hbx.size; simp; omega))
           have hb4 : Below w.heap.size w w4 := by
            first
             | exact hb2.trans (hw4.mono hb2.size)
             | exact (hb2.alloc hb2.size _).trans (hw4.mono (by have := hb2.size; simp; omega))
           have hval : Hid (val l4 = rdv (l.take (k + 1))) := by
            show _ = _
            rw [hv4, hv2, val_one, K3 hv, List.take_add_one, K3 hat k hlt]
            simp only [Option.toList]
            rw [rdv_snoc, Nat.mul_comm, K3 HD]
           have hn4 : n4 ≤ k + 1 := by
            have h4 := Lj hox.dig (Nat.le_trans (Nat.le_of_eq hox.len) hp)
            have h5 := hN4.length_le (k := k + 1) (by rw [hv4, hv2, val_one, Lm]; omega)
            have := ho4.len; omega
           exact ⟨k + 1, A4, n4, c4, l4, by omega, by go_num, rfl, ho4.base (by have := hb2.size; simp; omega), hN4, hn4, hval, hb4⟩
          case measure => simp [intOf]; omega
        ·obtain rfl : k = s.size := by omega
         go_wp2_with fail
         go_ret2
         refine ⟨X, p, r, x, by rw [K3 hgood]; rfl, nx, ?_, hox, hbx⟩
         rw [K3 hv, M9, if_pos (K3 hgood), List.take_of_length_le (Nat.le_of_eq (K3 HL).2)]
end Go.Proofs.YtncodmhgfkailaaGreatDoor
