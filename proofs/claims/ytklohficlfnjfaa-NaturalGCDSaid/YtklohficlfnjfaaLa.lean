/-
  Walks: Same, few, exampleHolds.
-/
import Derived.Test.YtklohficlfnjfaaWl
namespace Go.Proofs.Ytklohficlfnjfaa
set_option linter.unusedVariables false
set_option linter.unusedSimpArgs false
open Go.RowKit

def sameB (a b : List Nat) : Bool := decide (a = b)
theorem sameB_true {a b : List Nat} (h : a = b) : sameB a b = true := by simp [sameB, h]

set_option maxRecDepth 100000 in
set_option maxHeartbeats 1000000 in
theorem same_c {A B : Option Addr} {n c m d : Nat} {a b : List Nat} (w : World) (ha : In w A n c a) (hb : In w B m d b) :
    Calls Try.prog 14 #[.slice A n c, .slice B m d] w (RetQ w (.bool (sameB a b))) := by
  have hn := ha.lenI
  have hm := hb.lenI
  have HA := hide ha
  have HB := hide hb
  by_cases hl : n = m
  · subst hl
    have HL := hide (And.intro ha.len hb.len)
    clear ha hb
    go_enter Try.func14, Try.ntmps14
    go_wp2_with fail
    go_loopw [5] (fun si wx => ∃ k : Nat, k ≤ n ∧ si = .int .i64 k ∧ Hid (∀ j, j < k → dg a j = dg b j) ∧ Qd w wx) (fun si _ => n - (intOf si).toNat)
    case atStart => exact ⟨0, Nat.zero_le _, rfl, fun j hj => absurd hj (by omega), Qd.refl _⟩
    case round =>
      obtain ⟨k, hk, rfl, hI, ⟨q, rfl⟩⟩ := hrel
      by_cases hlt : k < n
      · obtain ⟨ad, hA, hca⟩ := (unhide HA).at_ (k := k) hlt
        obtain ⟨bd, hB, hcb⟩ := (unhide HB).at_ (k := k) hlt
        subst hA
        subst hB
        have hkn : (k : Int) < (n : Int) := by omega
        by_cases he : dg a k = dg b k
        · have t1 : ((dg a k : Int) != (dg b k : Int)) = false := by rw [he]; simp
          have HE := hide he
          clear he
          go_wp2_with fail
          go_quiet (fail)
          go_wp2_with fail
          go_roundw
          case rel =>
            refine ⟨k + 1, by omega, by go_num, fun j hj => ?_, Qd.of _ _⟩
            by_cases e : j = k
            · subst e; exact unhide HE
            · exact unhide hI j (by omega)
          case measure => simp [intOf]; omega
        · have t1 : ((dg a k : Int) != (dg b k : Int)) = true := by
            rw [bne_iff_ne]; omega
          have hf : Hid (sameB a b = false) := by
            show _ = _
            unfold sameB
            rw [decide_eq_false]
            intro e; rw [e] at he; exact he rfl
          clear he
          go_wp2_with fail
          go_quiet (fail)
          go_wp2_with fail
          go_ret
          rw [unhide hf]
          exact ⟨rfl, (Qd.of _ _).drewN _⟩
      · obtain rfl : n = k := by omega
        go_wp2_with fail
        go_ret
        rw [sameB_true (ext_dg (by rw [(unhide HL).1, (unhide HL).2]) (fun i hi => unhide hI i (by rw [(unhide HL).1] at hi; exact hi)))]
        exact ⟨rfl, Qd.of _ _⟩
  · have hf : Hid (sameB a b = false) := by
      show _ = _
      unfold sameB
      rw [decide_eq_false]
      intro e
      have h1 := ha.len
      have h2 := hb.len
      rw [e] at h1
      omega
    have t0 : ((n : Int) != (m : Int)) = true := by rw [bne_iff_ne]; omega
    clear hl ha hb
    go_enter Try.func14, Try.ntmps14
    go_wp2_with fail
    go_ret
    rw [unhide hf]
    exact ⟨rfl, Qd.refl _⟩
theorem same_t {A B : Option Addr} {n c m d : Nat} {a b : List Nat} (w : World) (ha : In w A n c a) (hb : In w B m d b) (h : a = b) :
    Calls Try.prog 14 #[.slice A n c, .slice B m d] w (RetQ w (.bool true)) := by
  have := same_c w ha hb
  rwa [sameB_true h] at this

theorem Mk.of_lit (w : World) (l : List Nat) (vs : Array Value) (h : vs = (u32s l).toArray) : Mk (w.alloc (.cells vs 44)) w.heap.size 44 l := by
  subst h
  exact Blk.new w 44 _
theorem in_lit (w : World) (l : List Nat) (n : Nat) (vs : Array Value) (h : vs = (u32s l).toArray) (hd : Dig l) (hn : l.length = n) (hm : n ≤ 100) :
    In (w.alloc (.cells vs 44)) (some ⟨w.heap.size, 0, none⟩) n n l := by
  subst hn
  exact ((Mk.of_lit w l vs h).own (B := 0) hd (Nat.zero_le _) (by unfold maxLen; omega)).toIn

theorem dec_ex : decS 4294967296 = [52, 50, 57, 52, 57, 54, 55, 50, 57, 54] := by
  have h := dec_unique (l := [54, 57, 50, 55, 54, 57, 52, 57, 50, 52]) (by intro b hb; simp at hb; rcases hb with rfl | rfl | rfl | rfl | rfl | rfl | rfl | rfl | rfl | rfl <;> decide) (by decide)
  rw [show dval [54, 57, 50, 55, 54, 57, 52, 57, 50, 52] = 4294967296 by decide] at h
  rw [decS, if_neg (by omega), h]
  rfl

set_option maxRecDepth 100000 in
set_option maxHeartbeats 2000000 in
theorem example_c (w : World) : Calls Try.prog 12 #[] w fun e w' => e = .returned (.bool true) ∧ Below w.heap.size w w' := by
  go_enter Try.func12, Try.ntmps12
  go_wp2_with fail
  have i1 := in_lit w [4294967295] 1 #[.int .u32 4294967295] rfl (Dig.one (by omega)) rfl (by omega)
  have b1 : Below w.heap.size w (w.alloc (.cells #[.int .u32 4294967295] 44)) := (Below.refl _ _).alloc (Nat.le_refl _) _
  have hsz1 : w.heap.size + 1 = (w.alloc (.cells #[.int .u32 4294967295] 44)).heap.size := by simp
  refine (parse_c ⟨#[48, 48, 55]⟩ (by decide) _).mono ?_
  rintro e w2 ⟨A2, n2, c2, l2, rfl, N2, v2, o2, h2⟩
  rw [show parseE (ByteArray.mk #[48, 48, 55]).data.toList = 3 by decide]
  go_wp2_with fail
  have j0 := in_lit w2 [7, 1] 2 #[.int .u32 7, .int .u32 1] rfl (Dig.cons (by omega) (Dig.one (by omega))) rfl (by omega)
  have j1 := j0.below ((Below.refl _ _).alloc (Nat.le_refl _) (.cells #[.int .u32 2] 44))
  have k1 := in_lit (w2.alloc (.cells #[.int .u32 7, .int .u32 1] 44)) [2] 1 #[.int .u32 2] rfl (Dig.one (by omega)) rfl (by omega)
  rw [show (w2.alloc (.cells #[.int .u32 7, .int .u32 1] 44)).heap.size = w2.heap.size + 1 by simp] at k1
  have hb2 : Below w.heap.size w ((w2.alloc (.cells #[.int .u32 7, .int .u32 1] 44)).alloc (.cells #[.int .u32 2] 44)) :=
    ((b1.trans (h2.mono (by omega))).alloc (Nat.le_trans b1.size h2.size) _).alloc (by have := b1.size; have := h2.size; simp at *; omega) _
  refine (divmod_c _ j1 k1 (by omega) (by omega)).mono ?_
  rintro e w3 ⟨A3, n3, c3, l3, A4, n4, c4, l4, rfl, N3, v3, N4, v4, o3, o4, h3⟩
  have e1 : val [7, 1] = 4294967303 := by simp [val]
  have e2 : val [2] = 2 := by simp [val]
  rw [e1, e2] at v3 v4
  rw [e2, show divE 2 = 0 from rfl]
  have i1' := ((i1.below h2).below (((Below.refl _ _).alloc (Nat.le_refl _) (.cells #[.int .u32 7, .int .u32 1] 44)).alloc (by simp) (.cells #[.int .u32 2] 44))).below h3
  have hb3 := hb2.trans (h3.mono hb2.size)
  have V3 := hide v3
  have V4 := hide v4
  clear v3 v4 v2 e1 e2 i1 j0 j1 k1 hsz1 b1 h2 hb2
  have i3 := o3.toIn
  have i4 := o4.toIn
  clear o3 o4 o2 N2
  go_wp2_with fail
  refine (mul_c _ i1' i1' (by omega) (by omega)).mono ?_
  rintro e w4 ⟨A5, n5, c5, l5, rfl, N5, v5, o5, h5⟩
  have V5 : Hid (l5 = [1, 4294967294]) := N5.unique ⟨Dig.cons (by omega) (Dig.one (by omega)), Or.inr (by decide)⟩ (by rw [v5]; simp [val])
  clear v5
  have i5 := o5.toIn.below ((Below.refl _ _).alloc (Nat.le_refl _) (.cells #[.int .u32 1, .int .u32 4294967294] 44))
  have g5 := in_lit w4 [1, 4294967294] 2 #[.int .u32 1, .int .u32 4294967294] rfl (Dig.cons (by omega) (Dig.one (by omega))) rfl (by omega)
  have hb4 := (hb3.trans (h5.mono hb3.size)).alloc (by have := hb3.size; have := h5.size; omega) (.cells #[.int .u32 1, .int .u32 4294967294] 44)
  have hb4a : Below w3.heap.size w3 (w4.alloc (.cells #[.int .u32 1, .int .u32 4294967294] 44)) := h5.alloc h5.size _
  go_wp2_with fail
  refine (same_t _ i5 g5 (unhide V5)).mono ?_
  rintro e w5 ⟨rfl, q5⟩
  have hb5a := hb4a.trans (q5.below w3.heap.size)
  have hb5 := hb4.trans (q5.below w.heap.size)
  clear i5 g5 q5 hb4 hb4a o5 h5
  go_wp2_with fail
  have V3' : Hid (l3 = [2147483651]) := N3.unique (Norm.one (by omega) (by omega)) (by rw [unhide V3]; simp [val])
  have V4' : Hid (l4 = [1]) := N4.unique (Norm.one (by omega) (by omega)) (by rw [unhide V4]; simp [val, modN])
  have i3a := (i3.below hb5a).below ((Below.refl _ _).alloc (Nat.le_refl _) (.cells #[.int .u32 2147483651] 44))
  have g3 := in_lit w5 [2147483651] 1 #[.int .u32 2147483651] rfl (Dig.one (by omega)) rfl (by omega)
  have hb6 := hb5.alloc hb5.size (.cells #[.int .u32 2147483651] 44)
  have hb6a := hb5a.alloc hb5a.size (.cells #[.int .u32 2147483651] 44)
  refine (same_t _ i3a g3 (unhide V3')).mono ?_
  rintro e w6 ⟨rfl, q6⟩
  have hb7a := hb6a.trans (q6.below w3.heap.size)
  have hb7 := hb6.trans (q6.below w.heap.size)
  clear i3a g3 q6 hb6 hb6a hb5 hb5a
  go_wp2_with fail
  have i4a := (i4.below hb7a).below ((Below.refl _ _).alloc (Nat.le_refl _) (.cells #[.int .u32 1] 44))
  have g4 := in_lit w6 [1] 1 #[.int .u32 1] rfl (Dig.one (by omega)) rfl (by omega)
  have hb8 := hb7.alloc hb7.size (.cells #[.int .u32 1] 44)
  refine (same_t _ i4a g4 (unhide V4')).mono ?_
  rintro e w7 ⟨rfl, q7⟩
  have hb9 := hb8.trans (q7.below w.heap.size)
  clear i4a g4 q7 hb8 hb7 hb7a
  go_wp2_with fail
  have g6 := in_lit w7 [0, 1] 2 #[.int .u32 0, .int .u32 1] rfl (Dig.cons (by omega) (Dig.one (by omega))) rfl (by omega)
  have hb10 := hb9.alloc hb9.size (.cells #[.int .u32 0, .int .u32 1] 44)
  refine (format_c _ g6 (by omega)).mono ?_
  rintro e w8 ⟨rfl, h8⟩
  rw [show val [0, 1] = 4294967296 by simp [val], show strOf (decS 4294967296) = .string ⟨#[52, 50, 57, 52, 57, 54, 55, 50, 57, 54]⟩ by rw [dec_ex]; rfl]
  go_wp2_with fail
  go_ret
  exact ⟨rfl, hb10.trans (h8.mono hb10.size)⟩

end Go.Proofs.Ytklohficlfnjfaa
