/-
  Hexadecimal: decoding, the laws.
-/
import Derived.Test.YtlpnjoenkohadaaUQ
namespace Go.Proofs.Ytlpnjoenkohadaa
set_option linter.unusedVariables false
set_option linter.unusedSimpArgs false
open Go.RowKit

/-- The value of a digit, or -1. -/
def valH (b : UInt8) : Int := if 97 ≤ b.toNat ∧ b.toNat ≤ 102 then (b.toNat : Int) - 87 else if 48 ≤ b.toNat ∧ b.toNat ≤ 57 then (b.toNat : Int) - 48 else -1
theorem valH_letter (b : UInt8) (h : 97 ≤ b.toNat ∧ b.toNat ≤ 102) : IntKind.i64.wrap (10 + IntKind.i64.wrap (IntKind.u8.wrap (IntKind.u8.wrap (IntKind.u8.wrap (((b.toNat : Nat) : Int) - 97) + 48) - 48))) = valH b := by
  unfold valH
  rw [if_pos h]
  have key : ∀ n : Fin 256, 97 ≤ n.val → n.val ≤ 102 → IntKind.i64.wrap (10 + IntKind.i64.wrap (IntKind.u8.wrap (IntKind.u8.wrap (IntKind.u8.wrap (((n.val : Nat) : Int) - 97) + 48) - 48))) = (n.val : Int) - 87 := by decide +kernel
  exact key ⟨b.toNat, by have := b.toNat_lt; omega⟩ h.1 h.2
theorem valH_cipher (b : UInt8) (h : 48 ≤ b.toNat ∧ b.toNat ≤ 57) : IntKind.i64.wrap (0 + IntKind.i64.wrap (IntKind.u8.wrap (((b.toNat : Nat) : Int) - 48))) = valH b := by
  unfold valH
  rw [if_neg (by omega), if_pos h]
  have key : ∀ n : Fin 256, 48 ≤ n.val → n.val ≤ 57 → IntKind.i64.wrap (0 + IntKind.i64.wrap (IntKind.u8.wrap (((n.val : Nat) : Int) - 48))) = (n.val : Int) - 48 := by decide +kernel
  exact key ⟨b.toNat, by have := b.toNat_lt; omega⟩ h.1 h.2
section
variable {w : World}
set_option maxRecDepth 100000 in
set_option maxHeartbeats 1000000 in
theorem value_m (b : UInt8) : Calls Try.prog 50 #[.int .u8 b.toNat] w (CallPost w (fun _ : Unit => .int .i64 (valH b)) fun _ _ => True) := by
  by_cases h1 : 97 ≤ b.toNat
  · by_cases h2 : b.toNat ≤ 102
    · rw [← valH_letter b ⟨h1, h2⟩]
      refine Good.enter Try.func50 rfl ?_
      refine Good.run (by kernel_rfl) (stop := 2) 1000 _ ?_
      refine Good.slot 6 (.bool (decide (((b.toNat : Nat) : Int) ≥ 97))) (.bool true) (by kernel_rfl) (by rw [decide_eq_true (by omega)]) ?_
      refine Good.run (by kernel_rfl) (stop := 1000) 1000 _ ?_
      refine Good.condr (decide (((b.toNat : Nat) : Int) ≤ 102)) true (by kernel_rfl) (by simp; omega) ?_
      refine Good.run (by kernel_rfl) (stop := 1000) 1000 _ ?_
      refine Good.ret (v := .int .i64 (IntKind.i64.wrap (10 + IntKind.i64.wrap (IntKind.u8.wrap (IntKind.u8.wrap (IntKind.u8.wrap (((b.toNat : Nat) : Int) - 97) + 48) - 48))))) (by kernel_rfl) (fun w1 hw h => ⟨(), rfl, hw, fun _ _ _ => trivial⟩)
    · have e : valH b = -1 := by unfold valH; rw [if_neg (by omega), if_neg (by omega)]
      rw [e]
      refine Good.enter Try.func50 rfl ?_
      refine Good.run (by kernel_rfl) (stop := 2) 1000 _ ?_
      refine Good.slot 6 (.bool (decide (((b.toNat : Nat) : Int) ≥ 97))) (.bool true) (by kernel_rfl) (by rw [decide_eq_true (by omega)]) ?_
      refine Good.run (by kernel_rfl) (stop := 1000) 1000 _ ?_
      refine Good.condr (decide (((b.toNat : Nat) : Int) ≤ 102)) false (by kernel_rfl) (by simp; omega) ?_
      refine Good.run (by kernel_rfl) (stop := 2) 1000 _ ?_
      refine Good.slot 13 (.bool (decide (((b.toNat : Nat) : Int) ≥ 48))) (.bool true) (by kernel_rfl) (by rw [decide_eq_true (by omega)]) ?_
      refine Good.run (by kernel_rfl) (stop := 1000) 1000 _ ?_
      refine Good.condr (decide (((b.toNat : Nat) : Int) ≤ 57)) false (by kernel_rfl) (by simp; omega) ?_
      refine Good.run (by kernel_rfl) (stop := 1000) 1000 _ ?_
      refine Good.ret (v := .int .i64 (-1)) (by kernel_rfl) (fun w1 hw h => ⟨(), rfl, hw, fun _ _ _ => trivial⟩)
  by_cases h3 : 48 ≤ b.toNat
  · by_cases h4 : b.toNat ≤ 57
    · rw [← valH_cipher b ⟨h3, h4⟩]
      refine Good.enter Try.func50 rfl ?_
      refine Good.run (by kernel_rfl) (stop := 2) 1000 _ ?_
      refine Good.slot 6 (.bool (decide (((b.toNat : Nat) : Int) ≥ 97))) (.bool false) (by kernel_rfl) (by rw [decide_eq_false (by omega)]) ?_
      refine Good.run (by kernel_rfl) (stop := 1000) 1000 _ ?_
      refine Good.cond false (by kernel_rfl) ?_
      refine Good.run (by kernel_rfl) (stop := 2) 1000 _ ?_
      refine Good.slot 13 (.bool (decide (((b.toNat : Nat) : Int) ≥ 48))) (.bool true) (by kernel_rfl) (by rw [decide_eq_true (by omega)]) ?_
      refine Good.run (by kernel_rfl) (stop := 1000) 1000 _ ?_
      refine Good.condr (decide (((b.toNat : Nat) : Int) ≤ 57)) true (by kernel_rfl) (by simp; omega) ?_
      refine Good.run (by kernel_rfl) (stop := 1000) 1000 _ ?_
      refine Good.ret (v := .int .i64 (IntKind.i64.wrap (0 + IntKind.i64.wrap (IntKind.u8.wrap (((b.toNat : Nat) : Int) - 48))))) (by kernel_rfl) (fun w1 hw h => ⟨(), rfl, hw, fun _ _ _ => trivial⟩)
    · have e : valH b = -1 := by unfold valH; rw [if_neg (by omega), if_neg (by omega)]
      rw [e]
      refine Good.enter Try.func50 rfl ?_
      refine Good.run (by kernel_rfl) (stop := 2) 1000 _ ?_
      refine Good.slot 6 (.bool (decide (((b.toNat : Nat) : Int) ≥ 97))) (.bool false) (by kernel_rfl) (by rw [decide_eq_false (by omega)]) ?_
      refine Good.run (by kernel_rfl) (stop := 1000) 1000 _ ?_
      refine Good.cond false (by kernel_rfl) ?_
      refine Good.run (by kernel_rfl) (stop := 2) 1000 _ ?_
      refine Good.slot 13 (.bool (decide (((b.toNat : Nat) : Int) ≥ 48))) (.bool true) (by kernel_rfl) (by rw [decide_eq_true (by omega)]) ?_
      refine Good.run (by kernel_rfl) (stop := 1000) 1000 _ ?_
      refine Good.condr (decide (((b.toNat : Nat) : Int) ≤ 57)) false (by kernel_rfl) (by simp; omega) ?_
      refine Good.run (by kernel_rfl) (stop := 1000) 1000 _ ?_
      refine Good.ret (v := .int .i64 (-1)) (by kernel_rfl) (fun w1 hw h => ⟨(), rfl, hw, fun _ _ _ => trivial⟩)
  · have e : valH b = -1 := by unfold valH; rw [if_neg (by omega), if_neg (by omega)]
    rw [e]
    refine Good.enter Try.func50 rfl ?_
    refine Good.run (by kernel_rfl) (stop := 2) 1000 _ ?_
    refine Good.slot 6 (.bool (decide (((b.toNat : Nat) : Int) ≥ 97))) (.bool false) (by kernel_rfl) (by rw [decide_eq_false (by omega)]) ?_
    refine Good.run (by kernel_rfl) (stop := 1000) 1000 _ ?_
    refine Good.cond false (by kernel_rfl) ?_
    refine Good.run (by kernel_rfl) (stop := 2) 1000 _ ?_
    refine Good.slot 13 (.bool (decide (((b.toNat : Nat) : Int) ≥ 48))) (.bool false) (by kernel_rfl) (by rw [decide_eq_false (by omega)]) ?_
    refine Good.run (by kernel_rfl) (stop := 1000) 1000 _ ?_
    refine Good.cond false (by kernel_rfl) ?_
    refine Good.run (by kernel_rfl) (stop := 1000) 1000 _ ?_
    refine Good.ret (v := .int .i64 (-1)) (by kernel_rfl) (fun w1 hw h => ⟨(), rfl, hw, fun _ _ _ => trivial⟩)
theorem valH_hexC : ∀ k, k < 16 → valH (hexC k) = k := by decide +kernel
theorem valH_none (b : UInt8) (h : ∀ j, j < 16 → hexT[j]? ≠ some b) : valH b = -1 := by
  unfold valH
  by_cases h1 : 97 ≤ b.toNat ∧ b.toNat ≤ 102
  · refine absurd ?_ (h (b.toNat - 87) (by omega))
    have key : ∀ n : Fin 256, 97 ≤ n.val → n.val ≤ 102 → hexT[n.val - 87]? = some (UInt8.ofNat n.val) := by decide +kernel
    have := key ⟨b.toNat, by have := b.toNat_lt; omega⟩ h1.1 h1.2
    simpa using this
  rw [if_neg h1]
  by_cases h2 : 48 ≤ b.toNat ∧ b.toNat ≤ 57
  · refine absurd ?_ (h (b.toNat - 48) (by omega))
    have key : ∀ n : Fin 256, 48 ≤ n.val → n.val ≤ 57 → hexT[n.val - 48]? = some (UInt8.ofNat n.val) := by decide +kernel
    have := key ⟨b.toNat, by have := b.toNat_lt; omega⟩ h2.1 h2.2
    simpa using this
  rw [if_neg h2]
set_option maxRecDepth 100000 in
set_option maxHeartbeats 1000000 in
theorem digit_m (b : UInt8) : Calls Try.prog 51 #[.int .u8 b.toNat] w (CallPost w (fun _ : Unit => .int .i64 (valH b)) fun _ _ => True) := by
  refine Good.enter Try.func51 rfl ?_
  refine Good.run (by kernel_rfl) (stop := 1000) 1000 _ ?_
  refine Good.loop (ι := {k : Nat // k ≤ 16 ∧ ∀ j, j < k → hexT[j]? ≠ some b}) 13 (fun q => ⟨[(0, .v (.int .u8 b.toNat)), (2, .v (.int .i64 0)), (3, .v (.int .i64 q.1))], []⟩) (fun _ _ => True) (fun q => 16 - q.1) (⟨0, by omega, by omega⟩) (by kernel_rfl) (fun _ => by kernel_rfl) ⟨by kernel_rfl, by kernel_rfl, by kernel_rfl⟩ (fun _ _ => trivial) ?_
  rintro ⟨k, hk, hkd⟩ g
  by_cases hlt : k < 16
  ·
    refine Good.run (by kernel_rfl) (stop := 1000) 1000 _ ?_
    refine Good.condr (decide ((k : Int) < 16)) true (by kernel_rfl) (by simp; omega) ?_
    refine Good.run (by kernel_rfl) (stop := 1) 1000 _ ?_
    refine Good.ask (ixS 9 (strOf hexT) k) (.int .u8 (hexC k).toNat) (by kernel_rfl) (fun w1 hw h => run_ixP (by kernel_rfl) (hexT_at k hlt)) ?_
    refine Good.run (by kernel_rfl) (stop := 1000) 1000 _ ?_
    by_cases he : hexC k = b
    ·
      refine Good.condr ((((hexC k).toNat : Nat) : Int) == ((b.toNat : Nat) : Int)) true (by kernel_rfl) (by rw [he]; simp) ?_
      refine Good.run (by kernel_rfl) (stop := 1000) 1000 _ ?_
      refine Good.leave (by kernel_rfl) ?_
      refine Good.run (by kernel_rfl) (stop := 1000) 1000 _ ?_
      refine Good.ret (v := .int .i64 k) (by kernel_rfl) (fun w1 hw h => ⟨(), by rw [← he, valH_hexC k hlt], hw, fun _ _ _ => trivial⟩)
    ·
      refine Good.condr ((((hexC k).toNat : Nat) : Int) == ((b.toNat : Nat) : Int)) false (by kernel_rfl) (by rw [beq_eq_false_iff_ne]; intro e; exact he (UInt8.toNat_inj.1 (by omega))) ?_
      refine Good.run (by kernel_rfl) (stop := 1000) 1000 _ ?_
      refine Good.slot 3 (.int .i64 (IntKind.i64.wrap ((k : Int) + 1))) (.int .i64 ((k + 1 : Nat) : Int)) (by kernel_rfl) (by rw [wrap_succ hlt (by decide)]) ?_
      refine Good.next (⟨k + 1, by omega, by intro j hj; by_cases e : j = k; rw [e, hexT_at k hlt]; simpa using he; exact hkd j (by omega)⟩) (by kernel_rfl) (by show 16 - (k + 1) < 16 - k; omega) ⟨by kernel_rfl, by kernel_rfl, by kernel_rfl⟩ (fun _ _ => trivial)
  ·
    refine Good.run (by kernel_rfl) (stop := 1000) 1000 _ ?_
    refine Good.condr (decide ((k : Int) < 16)) false (by kernel_rfl) (by simp; omega) ?_
    refine Good.run (by kernel_rfl) (stop := 1000) 1000 _ ?_
    refine Good.leave (by kernel_rfl) ?_
    refine Good.run (by kernel_rfl) (stop := 1000) 1000 _ ?_
    refine Good.ret (v := .int .i64 (-1)) (by kernel_rfl) (fun w1 hw h => ⟨(), by rw [valH_none b (fun j hj => hkd j (by omega))], hw, fun _ _ _ => trivial⟩)
end

def byteH (a b : UInt8) : UInt8 := UInt8.ofNat (16 * (valH a).toNat + (valH b).toNat)
def decL : List UInt8 → Option (List UInt8)
  | [] => some []
  | [_] => none
  | a :: b :: l => if valH a < 0 ∨ valH b < 0 then none else (decL l).map (byteH a b :: ·)
theorem valH_rng (b : UInt8) : -1 ≤ valH b ∧ valH b ≤ 15 := by
  unfold valH
  split
  · omega
  · split
    · omega
    · omega
theorem decL_odd : ∀ {l : List UInt8}, l.length % 2 = 1 → decL l = none
  | [], h => by simp at h
  | [_], _ => rfl
  | a :: b :: l, h => by
    unfold decL
    split
    · rfl
    · rw [decL_odd (l := l) (by simp only [List.length_cons] at h; omega)]; rfl
theorem decL_cons (a b : UInt8) (l : List UInt8) : decL (a :: b :: l) = if valH a < 0 ∨ valH b < 0 then none else (decL l).map (byteH a b :: ·) := rfl
def decVal (o : Option (List UInt8)) (y : Option Addr × Nat) : Value := match o with
  | some p => .tuple #[.slice y.1 p.length y.2, .int .i64 0]
  | none => .tuple #[.slice none 0 0, .int .i64 3]
def decG (o : Option (List UInt8)) (y : Option Addr × Nat) (u : World) : Prop := match o with
  | some p => OwnR u 0 5 1 y.1 p.length y.2 (bv p)
  | none => True
theorem decL_step {l p : List UInt8} {k : Nat} {a b : UInt8} (h : decL l = (decL (l.drop k)).map (p ++ ·)) (ha : l[k]? = some a) (hb : l[k + 1]? = some b) :
    (valH a < 0 ∨ valH b < 0 → decL l = none) ∧ (¬ (valH a < 0 ∨ valH b < 0) → decL l = (decL (l.drop (k + 2))).map ((p ++ [byteH a b]) ++ ·)) := by
  have hd : l.drop k = a :: b :: l.drop (k + 2) := by
    obtain ⟨h1, h2⟩ := List.getElem?_eq_some_iff.1 ha
    obtain ⟨h3, h4⟩ := List.getElem?_eq_some_iff.1 hb
    rw [List.drop_eq_getElem_cons h1, h2, List.drop_eq_getElem_cons h3, h4]
  rw [hd, decL_cons] at h
  constructor
  · intro hv
    rw [if_pos hv] at h
    exact h
  · intro hv
    rw [if_neg hv, Option.map_map] at h
    rw [h]
    congr 1
    funext q
    simp

theorem byte_or {x y : Int} (hx : 0 ≤ x ∧ x ≤ 15) (hy : 0 ≤ y ∧ y ≤ 15) : IntKind.u8.wrap (bits .or .i64 (IntKind.i64.wrap (x * 2 ^ 4)) y) = ((UInt8.ofNat (16 * x.toNat + y.toNat)).toNat : Int) := by
  have key : ∀ a b : Fin 16, IntKind.u8.wrap (bits .or .i64 (IntKind.i64.wrap (((a.val : Nat) : Int) * 2 ^ 4)) ((b.val : Nat) : Int)) = ((UInt8.ofNat (16 * a.val + b.val)).toNat : Int) := by decide +kernel
  have := key ⟨x.toNat, by omega⟩ ⟨y.toNat, by omega⟩
  simp only [Int.toNat_of_nonneg hx.1, Int.toNat_of_nonneg hy.1] at this
  exact this
theorem byte_add {x y : Int} (hx : 0 ≤ x ∧ x ≤ 15) (hy : 0 ≤ y ∧ y ≤ 15) : IntKind.u8.wrap (IntKind.i64.wrap (IntKind.i64.wrap (16 * x) + y)) = ((UInt8.ofNat (16 * x.toNat + y.toNat)).toNat : Int) := by
  have key : ∀ a b : Fin 16, IntKind.u8.wrap (IntKind.i64.wrap (IntKind.i64.wrap (16 * ((a.val : Nat) : Int)) + ((b.val : Nat) : Int))) = ((UInt8.ofNat (16 * a.val + b.val)).toNat : Int) := by decide +kernel
  have := key ⟨x.toNat, by omega⟩ ⟨y.toNat, by omega⟩
  simp only [Int.toNat_of_nonneg hx.1, Int.toNat_of_nonneg hy.1] at this
  exact this

section
variable {w : World} {l : List UInt8}
set_option maxRecDepth 100000 in
set_option maxHeartbeats 1000000 in
theorem xdecode_m {o : Option (List UInt8)} (ho : decL l = o) (hL : l.length ≤ 2000) : Calls Try.prog 26 #[strOf l] w (CallPost w (decVal o) (fun y u => decG o y u)) := by
  by_cases hodd : l.length % 2 = 1
  · obtain rfl : o = none := ho.symm.trans (decL_odd hodd)
    refine Good.enter Try.func26 rfl ?_
    refine Good.run (by kernel_rfl) (stop := 1000) 1000 _ ?_
    refine Good.condr (((l.length : Int).tmod 2) != 0) true (by kernel_rfl) (by rw [Int.tmod_eq_emod_of_nonneg (by omega)]; simp; omega) ?_
    refine Good.run (by kernel_rfl) (stop := 1000) 1000 _ ?_
    refine Good.ret (v := .tuple #[.slice none 0 0, .int .i64 3]) (by kernel_rfl) (fun w1 hw h => ⟨(none, 0), rfl, hw, fun _ _ _ => trivial⟩)
  refine Good.enter Try.func26 rfl ?_
  refine Good.run (by kernel_rfl) (stop := 1000) 1000 _ ?_
  refine Good.condr (((l.length : Int).tmod 2) != 0) false (by kernel_rfl) (by rw [Int.tmod_eq_emod_of_nonneg (by omega)]; simp; omega) ?_
  refine Good.run (by kernel_rfl) (stop := 1000) 1000 _ ?_
  refine Good.loop (ι := {q : (Nat × List UInt8) × (Option Addr × Nat) // 2 * q.1.1 ≤ l.length ∧ decL l = (decL (l.drop (2 * q.1.1))).map (q.1.2 ++ ·) ∧ q.1.2.length = q.1.1}) 42 (fun q => ⟨[(0, .v (strOf l)), (2, .v (.slice none 0 0)), (3, .v (.int .i64 0)), (4, .v (.slice q.1.2.1 q.1.1.1 q.1.2.2)), (5, .v (.int .i64 (2 * q.1.1.1 : Nat)))], []⟩) (fun q u => OwnR u w.heap.size 5 1 q.1.2.1 q.1.1.1 q.1.2.2 (bv q.1.1.2)) (fun q => l.length - 2 * q.1.1.1) (⟨((0, []), (none, 0)), by simp, by show decL l = (decL (l.drop 0)).map ([] ++ ·); rw [List.drop_zero]; cases decL l <;> rfl, rfl⟩) (by kernel_rfl) (fun _ => by kernel_rfl) ⟨by kernel_rfl, by kernel_rfl, by kernel_rfl⟩ (fun u h => OwnR.nil_) ?_
  rintro ⟨⟨⟨k, p⟩, y, yc⟩, hk⟩ g
  have hk1 : 2 * k ≤ l.length := hk.1
  have hk2 : decL l = (decL (l.drop (2 * k))).map (p ++ ·) := hk.2.1
  have hk3 : p.length = k := hk.2.2
  by_cases hlt : 2 * k < l.length
  ·
    refine Good.run (by kernel_rfl) (stop := 1000) 1000 _ ?_
    refine Good.condr (decide (((2 * k : Nat) : Int) < (l.length : Int))) true (by kernel_rfl) (by simp; omega) ?_
    refine Good.run (by kernel_rfl) (stop := 2) 1000 _ ?_
    obtain ⟨a, ha⟩ : ∃ a, l[2 * k]? = some a := ⟨_, List.getElem?_eq_getElem hlt⟩
    obtain ⟨b, hb⟩ : ∃ b, l[2 * k + 1]? = some b := ⟨_, List.getElem?_eq_getElem (by omega)⟩
    obtain ⟨d1, d2⟩ := decL_step hk2 ha hb
    refine Good.askAt 2 (ixS 9 (strOf l) (2 * k : Nat)) (.int .u8 a.toNat) (by kernel_rfl) (fun w1 hw h => run_ixP (by kernel_rfl) ha) ?_
    refine Good.run (by kernel_rfl) (stop := 7) 1000 _ ?_
    refine Good.slot 24 (.int .i64 (IntKind.i64.wrap (((2 * k : Nat) : Int) + 1))) (.int .i64 ((2 * k + 1 : Nat) : Int)) (by kernel_rfl) (by rw [wrap_succ hlt (by omega)]) ?_
    refine Good.askAt 7 (ixS 9 (strOf l) (2 * k + 1 : Nat)) (.int .u8 b.toNat) (by kernel_rfl) (fun w1 hw h => run_ixP (by kernel_rfl) hb) ?_
    refine Good.run (by kernel_rfl) (stop := 1000) 1000 _ ?_
    refine Good.callv (fun w1 hw h => value_m a) (by kernel_rfl) (fun u => ?_)
    refine Good.run (by kernel_rfl) (stop := 1000) 1000 _ ?_
    refine Good.callv (fun w1 hw h => value_m b) (by kernel_rfl) (fun u => ?_)
    refine Good.run (by kernel_rfl) (stop := 0) 1000 _ ?_
    refine Good.run (by kernel_rfl) (stop := 1000) 3 _ ?_
    by_cases hva : valH a < 0
    ·
      refine Good.run (by kernel_rfl) (stop := 2) 1000 _ ?_
      refine Good.slot 28 (.bool (decide (valH a < 0))) (.bool true) (by kernel_rfl) (by rw [decide_eq_true hva]) ?_
      refine Good.run (by kernel_rfl) (stop := 1000) 1000 _ ?_
      refine Good.cond true (by kernel_rfl) ?_
      refine Good.run (by kernel_rfl) (stop := 1000) 1000 _ ?_
      refine Good.leave (by kernel_rfl) ?_
      refine Good.run (by kernel_rfl) (stop := 1000) 1000 _ ?_
      obtain rfl : o = none := ho.symm.trans (d1 (.inl hva))
      refine Good.ret (v := .tuple #[.slice none 0 0, .int .i64 3]) (by kernel_rfl) (fun w1 hw h => ⟨(none, 0), rfl, hw, fun _ _ _ => trivial⟩)
    by_cases hvb : valH b < 0
    ·
      refine Good.run (by kernel_rfl) (stop := 2) 1000 _ ?_
      refine Good.slot 28 (.bool (decide (valH a < 0))) (.bool false) (by kernel_rfl) (by rw [decide_eq_false hva]) ?_
      refine Good.run (by kernel_rfl) (stop := 1000) 1000 _ ?_
      refine Good.condr (decide (valH b < 0)) true (by kernel_rfl) (decide_eq_true hvb) ?_
      refine Good.run (by kernel_rfl) (stop := 1000) 1000 _ ?_
      refine Good.leave (by kernel_rfl) ?_
      refine Good.run (by kernel_rfl) (stop := 1000) 1000 _ ?_
      obtain rfl : o = none := ho.symm.trans (d1 (.inr hvb))
      refine Good.ret (v := .tuple #[.slice none 0 0, .int .i64 3]) (by kernel_rfl) (fun w1 hw h => ⟨(none, 0), rfl, hw, fun _ _ _ => trivial⟩)
    have hba : 0 ≤ valH a ∧ valH a ≤ 15 := ⟨by omega, (valH_rng a).2⟩
    have hbb : 0 ≤ valH b ∧ valH b ≤ 15 := ⟨by omega, (valH_rng b).2⟩
    refine Good.run (by kernel_rfl) (stop := 2) 1000 _ ?_
    refine Good.slot 28 (.bool (decide (valH a < 0))) (.bool false) (by kernel_rfl) (by rw [decide_eq_false hva]) ?_
    refine Good.run (by kernel_rfl) (stop := 1000) 1000 _ ?_
    refine Good.condr (decide (valH b < 0)) false (by kernel_rfl) (decide_eq_false hvb) ?_
    refine Good.run (by kernel_rfl) (stop := 6) 1000 _ ?_
    refine Good.slot 38 (.int .u8 (IntKind.u8.wrap (bits .or .i64 (IntKind.i64.wrap (valH a * 2 ^ 4)) (valH b)))) (.int .u8 (byteH a b).toNat) (by kernel_rfl) (by rw [byte_or hba hbb]; rfl) ?_
    refine Good.make (litS 45 1 #[(0, .int .u8 (byteH a b).toNat)]) (litV 1) (litG 5 #[.int .u8 (byteH a b).toNat]) (by kernel_rfl) (fun w1 hw h => make_lit (by kernel_rfl)) (fun gb => ?_)
    refine Good.run (by kernel_rfl) (stop := 7) 1000 _ ?_
    refine Good.mutOp (L := bl y) (val := fun (z : Option Addr × Nat) => .slice z.1 (k + 1) z.2) (Φ' := fun (z : Option Addr × Nat) v => OwnR v w.heap.size 5 1 z.1 (k + 1) z.2 (bv (p ++ [byteH a b]))) (G := fun (z : Option Addr × Nat) v => OwnR v w.heap.size 5 1 z.1 (k + 1) z.2 (bv (p ++ [byteH a b]))) (appS 45 45 (.slice y k yc) (litV 1 gb)) (fun w1 hw h => by have ho : OwnR w1 w.heap.size 5 1 y k yc (bv p) := h.1.1.1; have ha := appendR_m (P := Try.prog) (s := 1) (z := .int .u8 0) (bytes := 1) (m := 1) (cc := 1) (t := 45) (elem := 5) (by kernel_rfl) (by kernel_rfl) rfl (by decide) ho hw.size (litG_reads (n := 1) h.2 rfl) (by intro v hv; simp at hv; rcases hv with rfl; rfl) (by omega) (by decide); have e : bv (p ++ [byteH a b]) = bv p ++ [.int .u8 (byteH a b).toNat] := by { simp [bv] }; rw [e]; exact ha) (fun w1 h => fun b hb => ⟨(h.1.1.1.lt b hb).1, (h.1.1.1.blk b hb).2⟩) (fun z wa w1 e1 e2 h hG => hG) (by kernel_rfl) (by kernel_rfl) (fun z => ?_)
    refine Good.run (by kernel_rfl) (stop := 1000) 1000 _ ?_
    refine Good.slot 5 (.int .i64 (IntKind.i64.wrap (((2 * k : Nat) : Int) + 2))) (.int .i64 ((2 * (k + 1) : Nat) : Int)) (by kernel_rfl) (by rw [IntWalk.i64_in _ (by omega)]; congr 1) ?_
    refine Good.next (⟨((k + 1, p ++ [byteH a b]), z), by show 2 * (k + 1) ≤ l.length; omega, d2 (by omega), by simp [hk3]⟩) (by kernel_rfl) (by show l.length - 2 * (k + 1) < l.length - 2 * k; omega) ⟨by kernel_rfl, by kernel_rfl, by kernel_rfl⟩ (fun _ h => h)
  ·
    refine Good.run (by kernel_rfl) (stop := 1000) 1000 _ ?_
    refine Good.condr (decide (((2 * k : Nat) : Int) < (l.length : Int))) false (by kernel_rfl) (by simp; omega) ?_
    refine Good.run (by kernel_rfl) (stop := 1000) 1000 _ ?_
    refine Good.leave (by kernel_rfl) ?_
    refine Good.run (by kernel_rfl) (stop := 1000) 1000 _ ?_
    have hd : decL l = some p := by
      rw [hk2, List.drop_of_length_le (by omega)]
      show some (p ++ []) = some p
      rw [List.append_nil]
    obtain rfl : o = some p := ho.symm.trans hd
    refine Good.ret (v := .tuple #[.slice y k yc, .int .i64 0]) (by kernel_rfl) (fun w1 hw h => ⟨(y, yc), by show _ = Ending.returned (Value.tuple #[.slice y p.length yc, .int .i64 0]); rw [hk3], hw, fun w'' k1 k2 => by show OwnR w'' 0 5 1 y p.length yc (bv p); rw [hk3]; exact (show OwnR w'' w.heap.size 5 1 y k yc (bv p) from h w'' k1 k2).rebase (fun _ _ => Nat.zero_le _)⟩)
end

section
variable {w : World} {l : List UInt8}
set_option maxRecDepth 100000 in
set_option maxHeartbeats 1000000 in
theorem rdecode_m {o : Option (List UInt8)} (ho : decL l = o) (hL : l.length ≤ 2000) : Calls Try.prog 27 #[strOf l] w (CallPost w (decVal o) (fun y u => decG o y u)) := by
  by_cases hodd : l.length % 2 = 1
  · obtain rfl : o = none := ho.symm.trans (decL_odd hodd)
    refine Good.enter Try.func27 rfl ?_
    refine Good.run (by kernel_rfl) (stop := 1000) 1000 _ ?_
    refine Good.make (litS 45 0 #[]) (litV 0) (fun g u => OwnR u w.heap.size 5 1 (some ⟨g, 0, none⟩) 0 0 []) (by kernel_rfl) (fun w1 hw h => make_nil (by kernel_rfl) hw.size) (fun y => ?_)
    refine Good.run (by kernel_rfl) (stop := 1000) 1000 _ ?_
    refine Good.condr (((l.length : Int).tmod 2) == 1) true (by kernel_rfl) (by rw [Int.tmod_eq_emod_of_nonneg (by omega)]; simp; omega) ?_
    refine Good.run (by kernel_rfl) (stop := 1000) 1000 _ ?_
    refine Good.ret (v := .tuple #[.slice none 0 0, .int .i64 3]) (by kernel_rfl) (fun w1 hw h => ⟨(none, 0), rfl, hw, fun _ _ _ => trivial⟩)
  refine Good.enter Try.func27 rfl ?_
  refine Good.run (by kernel_rfl) (stop := 1000) 1000 _ ?_
  refine Good.make (litS 45 0 #[]) (litV 0) (fun g u => OwnR u w.heap.size 5 1 (some ⟨g, 0, none⟩) 0 0 []) (by kernel_rfl) (fun w1 hw h => make_nil (by kernel_rfl) hw.size) (fun y => ?_)
  refine Good.run (by kernel_rfl) (stop := 1000) 1000 _ ?_
  refine Good.condr (((l.length : Int).tmod 2) == 1) false (by kernel_rfl) (by rw [Int.tmod_eq_emod_of_nonneg (by omega)]; simp; omega) ?_
  refine Good.run (by kernel_rfl) (stop := 1000) 1000 _ ?_
  refine Good.loop (ι := {q : (Nat × List UInt8) × (Option Addr × Nat) // 2 * q.1.1 ≤ l.length ∧ decL l = (decL (l.drop (2 * q.1.1))).map (q.1.2 ++ ·) ∧ q.1.2.length = q.1.1}) 43 (fun q => ⟨[(0, .v (strOf l)), (2, .v (.slice none 0 0)), (3, .v (.int .i64 0)), (4, .v (.slice q.1.2.1 q.1.1.1 q.1.2.2)), (5, .v (.int .i64 (2 * q.1.1.1 : Nat)))], []⟩) (fun q u => OwnR u w.heap.size 5 1 q.1.2.1 q.1.1.1 q.1.2.2 (bv q.1.1.2)) (fun q => l.length - 2 * q.1.1.1) (⟨((0, []), (some ⟨y, 0, none⟩, 0)), by simp, by show decL l = (decL (l.drop 0)).map ([] ++ ·); rw [List.drop_zero]; cases decL l <;> rfl, rfl⟩) (by kernel_rfl) (fun _ => by kernel_rfl) ⟨by kernel_rfl, by kernel_rfl, by kernel_rfl⟩ (fun u h => h.2) ?_
  rintro ⟨⟨⟨k, p⟩, y, yc⟩, hk⟩ g
  have hk1 : 2 * k ≤ l.length := hk.1
  have hk2 : decL l = (decL (l.drop (2 * k))).map (p ++ ·) := hk.2.1
  have hk3 : p.length = k := hk.2.2
  by_cases hlt : 2 * k < l.length
  ·
    refine Good.run (by kernel_rfl) (stop := 1000) 1000 _ ?_
    refine Good.condr (decide (((2 * k : Nat) : Int) < (l.length : Int))) true (by kernel_rfl) (by simp; omega) ?_
    refine Good.run (by kernel_rfl) (stop := 2) 1000 _ ?_
    obtain ⟨a, ha⟩ : ∃ a, l[2 * k]? = some a := ⟨_, List.getElem?_eq_getElem hlt⟩
    obtain ⟨b, hb⟩ : ∃ b, l[2 * k + 1]? = some b := ⟨_, List.getElem?_eq_getElem (by omega)⟩
    obtain ⟨d1, d2⟩ := decL_step hk2 ha hb
    refine Good.askAt 2 (ixS 9 (strOf l) (2 * k : Nat)) (.int .u8 a.toNat) (by kernel_rfl) (fun w1 hw h => run_ixP (by kernel_rfl) ha) ?_
    refine Good.run (by kernel_rfl) (stop := 7) 1000 _ ?_
    refine Good.slot 25 (.int .i64 (IntKind.i64.wrap (((2 * k : Nat) : Int) + 1))) (.int .i64 ((2 * k + 1 : Nat) : Int)) (by kernel_rfl) (by rw [wrap_succ hlt (by omega)]) ?_
    refine Good.askAt 7 (ixS 9 (strOf l) (2 * k + 1 : Nat)) (.int .u8 b.toNat) (by kernel_rfl) (fun w1 hw h => run_ixP (by kernel_rfl) hb) ?_
    refine Good.run (by kernel_rfl) (stop := 1000) 1000 _ ?_
    refine Good.callv (fun w1 hw h => digit_m a) (by kernel_rfl) (fun u => ?_)
    refine Good.run (by kernel_rfl) (stop := 1000) 1000 _ ?_
    refine Good.callv (fun w1 hw h => digit_m b) (by kernel_rfl) (fun u => ?_)
    refine Good.run (by kernel_rfl) (stop := 0) 1000 _ ?_
    refine Good.run (by kernel_rfl) (stop := 1000) 2 _ ?_
    by_cases hva : valH a < 0
    ·
      refine Good.run (by kernel_rfl) (stop := 2) 1000 _ ?_
      refine Good.slot 29 (.bool (decide (valH a < 0))) (.bool true) (by kernel_rfl) (by rw [decide_eq_true hva]) ?_
      refine Good.run (by kernel_rfl) (stop := 1000) 1000 _ ?_
      refine Good.cond true (by kernel_rfl) ?_
      refine Good.run (by kernel_rfl) (stop := 1000) 1000 _ ?_
      refine Good.leave (by kernel_rfl) ?_
      refine Good.run (by kernel_rfl) (stop := 1000) 1000 _ ?_
      obtain rfl : o = none := ho.symm.trans (d1 (.inl hva))
      refine Good.ret (v := .tuple #[.slice none 0 0, .int .i64 3]) (by kernel_rfl) (fun w1 hw h => ⟨(none, 0), rfl, hw, fun _ _ _ => trivial⟩)
    by_cases hvb : valH b < 0
    ·
      refine Good.run (by kernel_rfl) (stop := 2) 1000 _ ?_
      refine Good.slot 29 (.bool (decide (valH a < 0))) (.bool false) (by kernel_rfl) (by rw [decide_eq_false hva]) ?_
      refine Good.run (by kernel_rfl) (stop := 1000) 1000 _ ?_
      refine Good.condr (decide (valH b < 0)) true (by kernel_rfl) (decide_eq_true hvb) ?_
      refine Good.run (by kernel_rfl) (stop := 1000) 1000 _ ?_
      refine Good.leave (by kernel_rfl) ?_
      refine Good.run (by kernel_rfl) (stop := 1000) 1000 _ ?_
      obtain rfl : o = none := ho.symm.trans (d1 (.inr hvb))
      refine Good.ret (v := .tuple #[.slice none 0 0, .int .i64 3]) (by kernel_rfl) (fun w1 hw h => ⟨(none, 0), rfl, hw, fun _ _ _ => trivial⟩)
    have hba : 0 ≤ valH a ∧ valH a ≤ 15 := ⟨by omega, (valH_rng a).2⟩
    have hbb : 0 ≤ valH b ∧ valH b ≤ 15 := ⟨by omega, (valH_rng b).2⟩
    refine Good.run (by kernel_rfl) (stop := 2) 1000 _ ?_
    refine Good.slot 29 (.bool (decide (valH a < 0))) (.bool false) (by kernel_rfl) (by rw [decide_eq_false hva]) ?_
    refine Good.run (by kernel_rfl) (stop := 1000) 1000 _ ?_
    refine Good.condr (decide (valH b < 0)) false (by kernel_rfl) (decide_eq_false hvb) ?_
    refine Good.run (by kernel_rfl) (stop := 6) 1000 _ ?_
    refine Good.slot 39 (.int .u8 (IntKind.u8.wrap (IntKind.i64.wrap (IntKind.i64.wrap (16 * valH a) + valH b)))) (.int .u8 (byteH a b).toNat) (by kernel_rfl) (by rw [byte_add hba hbb]; rfl) ?_
    refine Good.make (litS 45 1 #[(0, .int .u8 (byteH a b).toNat)]) (litV 1) (litG 5 #[.int .u8 (byteH a b).toNat]) (by kernel_rfl) (fun w1 hw h => make_lit (by kernel_rfl)) (fun gb => ?_)
    refine Good.run (by kernel_rfl) (stop := 7) 1000 _ ?_
    refine Good.mutOp (L := bl y) (val := fun (z : Option Addr × Nat) => .slice z.1 (k + 1) z.2) (Φ' := fun (z : Option Addr × Nat) v => OwnR v w.heap.size 5 1 z.1 (k + 1) z.2 (bv (p ++ [byteH a b]))) (G := fun (z : Option Addr × Nat) v => OwnR v w.heap.size 5 1 z.1 (k + 1) z.2 (bv (p ++ [byteH a b]))) (appS 45 45 (.slice y k yc) (litV 1 gb)) (fun w1 hw h => by have ho : OwnR w1 w.heap.size 5 1 y k yc (bv p) := h.1.1.1; have ha := appendR_m (P := Try.prog) (s := 1) (z := .int .u8 0) (bytes := 1) (m := 1) (cc := 1) (t := 45) (elem := 5) (by kernel_rfl) (by kernel_rfl) rfl (by decide) ho hw.size (litG_reads (n := 1) h.2 rfl) (by intro v hv; simp at hv; rcases hv with rfl; rfl) (by omega) (by decide); have e : bv (p ++ [byteH a b]) = bv p ++ [.int .u8 (byteH a b).toNat] := by { simp [bv] }; rw [e]; exact ha) (fun w1 h => fun b hb => ⟨(h.1.1.1.lt b hb).1, (h.1.1.1.blk b hb).2⟩) (fun z wa w1 e1 e2 h hG => hG) (by kernel_rfl) (by kernel_rfl) (fun z => ?_)
    refine Good.run (by kernel_rfl) (stop := 1000) 1000 _ ?_
    refine Good.slot 5 (.int .i64 (IntKind.i64.wrap (((2 * k : Nat) : Int) + 2))) (.int .i64 ((2 * (k + 1) : Nat) : Int)) (by kernel_rfl) (by rw [IntWalk.i64_in _ (by omega)]; congr 1) ?_
    refine Good.next (⟨((k + 1, p ++ [byteH a b]), z), by show 2 * (k + 1) ≤ l.length; omega, d2 (by omega), by simp [hk3]⟩) (by kernel_rfl) (by show l.length - 2 * (k + 1) < l.length - 2 * k; omega) ⟨by kernel_rfl, by kernel_rfl, by kernel_rfl⟩ (fun _ h => h)
  ·
    refine Good.run (by kernel_rfl) (stop := 1000) 1000 _ ?_
    refine Good.condr (decide (((2 * k : Nat) : Int) < (l.length : Int))) false (by kernel_rfl) (by simp; omega) ?_
    refine Good.run (by kernel_rfl) (stop := 1000) 1000 _ ?_
    refine Good.leave (by kernel_rfl) ?_
    refine Good.run (by kernel_rfl) (stop := 1000) 1000 _ ?_
    have hd : decL l = some p := by
      rw [hk2, List.drop_of_length_le (by omega)]
      show some (p ++ []) = some p
      rw [List.append_nil]
    obtain rfl : o = some p := ho.symm.trans hd
    refine Good.ret (v := .tuple #[.slice y k yc, .int .i64 0]) (by kernel_rfl) (fun w1 hw h => ⟨(y, yc), by show _ = Ending.returned (Value.tuple #[.slice y p.length yc, .int .i64 0]); rw [hk3], hw, fun w'' k1 k2 => by show OwnR w'' 0 5 1 y p.length yc (bv p); rw [hk3]; exact (show OwnR w'' w.heap.size 5 1 y k yc (bv p) from h w'' k1 k2).rebase (fun _ _ => Nat.zero_le _)⟩)
end

theorem hexC_valH (b : UInt8) (h : ¬ valH b < 0) : hexC (valH b).toNat = b := by
  have key : ∀ n : Fin 256, ¬ valH (UInt8.ofNat n.val) < 0 → hexC (valH (UInt8.ofNat n.val)).toNat = UInt8.ofNat n.val := by decide +kernel
  have := key ⟨b.toNat, by have := b.toNat_lt; omega⟩
  simp only [UInt8.ofNat_toNat] at this
  exact this h
theorem enc2_ofNat {x y : Nat} (hx : x < 16) (hy : y < 16) : enc2 (UInt8.ofNat (16 * x + y)) = [hexC x, hexC y] := by
  have key : ∀ a b : Fin 16, enc2 (UInt8.ofNat (16 * a.val + b.val)) = [hexC a.val, hexC b.val] := by decide +kernel
  exact key ⟨x, hx⟩ ⟨y, hy⟩
theorem byteH_enc (b : UInt8) : byteH (hexC (b.toNat / 16)) (hexC (b.toNat % 16)) = b := by
  have key : ∀ n : Fin 256, byteH (hexC (n.val / 16)) (hexC (n.val % 16)) = UInt8.ofNat n.val := by decide +kernel
  have := key ⟨b.toNat, by have := b.toNat_lt; omega⟩
  simp only [UInt8.ofNat_toNat] at this
  exact this
theorem decL_enc : ∀ l : List UInt8, decL (encL l) = some l
  | [] => rfl
  | b :: l => by
    have e : encL (b :: l) = hexC (b.toNat / 16) :: hexC (b.toNat % 16) :: encL l := rfl
    have h1 := valH_hexC (b.toNat / 16) (by have := b.toNat_lt; omega)
    have h2 := valH_hexC (b.toNat % 16) (by omega)
    rw [e, decL_cons, if_neg (by rw [h1, h2]; omega), decL_enc l, byteH_enc]
    rfl
theorem encL_dec : ∀ {l p : List UInt8}, decL l = some p → encL p = l
  | [], p, h => by cases h; rfl
  | [_], p, h => by cases h
  | a :: b :: l, p, h => by
    rw [decL_cons] at h
    split at h
    · cases h
    · rename_i hv
      cases hl : decL l with
      | none => rw [hl] at h; cases h
      | some q =>
        rw [hl] at h
        cases h
        have ha : ¬ valH a < 0 := fun k => hv (.inl k)
        have hb : ¬ valH b < 0 := fun k => hv (.inr k)
        have ra := (valH_rng a).2
        have rb := (valH_rng b).2
        show enc2 (byteH a b) ++ encL q = _
        rw [encL_dec hl, byteH, enc2_ofNat (by omega) (by omega), hexC_valH a ha, hexC_valH b hb]
        rfl
theorem BytesAt.below {w w1 : World} {A : Option Addr} {n : Nat} {bs : List UInt8} (h : BytesAt w A n bs) (hw : Below w.heap.size w w1) : BytesAt w1 A n bs :=
  ⟨h.1, fun k b hk => by obtain ⟨ad, h1, h2⟩ := h.2 k b hk; exact ⟨ad, h1, keepc hw h2⟩⟩
theorem OwnR.bytes {w : World} {A : Option Addr} {B c : Nat} {e : TypeId} {l : List UInt8} (h : OwnR w B e 1 A l.length c (bv l)) : BytesAt w A l.length l := by
  refine ⟨rfl, fun k b hk => ?_⟩
  have hj := (List.getElem?_eq_some_iff.1 hk).1
  obtain ⟨g, hg, hc⟩ := h.cells (by omega)
  have := hc k (.int .u8 (b.toNat : Nat)) (by simp [bv, hk])
  exact ⟨_, hg, by rw [Addr.add_mid, Nat.zero_add]; exact this⟩
theorem bytes_of {w : World} {A : Option Addr} : ∀ (n : Nat), (∀ i, i < n → ∃ (ad : Addr) (z : Int), A = some ad ∧ w.cell? (ad.add i) = some (.int .u8 z) ∧ (Lit.int .u8 z).wf = true) → ∃ bs, BytesAt w A n bs
  | 0, _ => ⟨[], rfl, fun k b h => by simp at h⟩
  | n + 1, h => by
    obtain ⟨bs, h1, h2⟩ := bytes_of n fun i hi => h i (by omega)
    obtain ⟨ad, z, e1, e2, e3⟩ := h n (Nat.lt_succ_self n)
    have hz : 0 ≤ z ∧ z < 256 := by
      have : IntKind.u8.min ≤ z ∧ z ≤ IntKind.u8.max := by simpa [Lit.wf] using e3
      simp only [show IntKind.u8.min = 0 from rfl, show IntKind.u8.max = 255 from rfl] at this
      omega
    refine ⟨bs ++ [UInt8.ofNat z.toNat], by simp [h1], fun k b hk => ?_⟩
    rcases Nat.lt_or_ge k n with hlt | hge
    · rw [List.getElem?_append_left (by omega)] at hk
      exact h2 k b hk
    · have hk' := (List.getElem?_eq_some_iff.1 hk).1
      simp only [List.length_append, List.length_singleton] at hk'
      obtain rfl : k = n := by omega
      rw [List.getElem?_append_right (by omega), h1, Nat.sub_self] at hk
      cases hk
      refine ⟨ad, e1, ?_⟩
      rw [e2, UInt8.toNat_ofNat', Nat.mod_eq_of_lt (by omega), Int.toNat_of_nonneg hz.1]
theorem rd_bytes {w : World} {A : Option Addr} {n c : Nat} (h : Rd w (.sl 1 (.int .u8)) [.slice A n c]) : ∃ bs, BytesAt w A n bs := by
  obtain ⟨A', n', c', e, _, _, h⟩ := h
  cases e
  exact bytes_of (w := w) (A := A) n fun i hi => by
    obtain ⟨ad, xs, h1, h2, h3, z, rfl, hz⟩ := h i hi
    refine ⟨ad, z, h1, ?_, hz⟩
    have := h3 0 (.int .u8 z) rfl
    rw [Addr.add_add] at this
    simpa using this

section
variable {w : World} {A : Option Addr} {n c : Nat} {bs l p : List UInt8}
theorem run_cvB {P : Program} {e src dst : TypeId} (hs : P.underlying src = some (.slice e)) (he : P.underlying e = some (.int .u8)) (hd : P.underlying dst = some .string) (h : BytesAt w A n bs) :
    (cvS src dst (.slice A n c)).run P w = .ok (.value (strOf bs)) w := by
  obtain ⟨rfl, h⟩ := h
  unfold cvS
  cases A with
  | none =>
    have h0 : bs = [] := by
      rcases bs with _ | ⟨b, bs⟩
      · rfl
      · obtain ⟨ad, k, _⟩ := h 0 b rfl; cases k
    subst h0
    rw [Sem.run_bind, run_convert_bytes_string w src dst e none _ c hs he hd]
    rfl
  | some ad =>
    rw [Sem.run_bind, run_convert_bytes_back w src dst e ad c bs hs he hd fun j hj => ?_]
    · rfl
    · obtain ⟨g, hg, hc⟩ := h j bs[j] (List.getElem?_eq_getElem hj)
      injection hg with hg
      rw [hg]; exact hc
theorem xdecode_n (hd : decL l = none) (hL : l.length ≤ 2000) : Calls Try.prog 26 #[strOf l] w (CallPost w (fun _ : Option Addr × Nat => .tuple #[.slice none 0 0, .int .i64 3]) fun _ _ => True) := xdecode_m hd hL
theorem xdecode_s (hd : decL l = some p) (hL : l.length ≤ 2000) : Calls Try.prog 26 #[strOf l] w (CallPost w (fun y : Option Addr × Nat => .tuple #[.slice y.1 p.length y.2, .int .i64 0]) fun y u => OwnR u 0 5 1 y.1 p.length y.2 (bv p)) := xdecode_m hd hL
theorem rdecode_n (hd : decL l = none) (hL : l.length ≤ 2000) : Calls Try.prog 27 #[strOf l] w (CallPost w (fun _ : Option Addr × Nat => .tuple #[.slice none 0 0, .int .i64 3]) fun _ _ => True) := rdecode_m hd hL
theorem rdecode_s (hd : decL l = some p) (hL : l.length ≤ 2000) : Calls Try.prog 27 #[strOf l] w (CallPost w (fun y : Option Addr × Nat => .tuple #[.slice y.1 p.length y.2, .int .i64 0]) fun y u => OwnR u 0 5 1 y.1 p.length y.2 (bv p)) := rdecode_m hd hL
set_option maxRecDepth 100000 in
set_option maxHeartbeats 1000000 in
theorem lawHex (hM : ML w) (hb : BytesAt w A n bs) : Calls Try.prog 8 #[.slice A n c, strOf l] w (CallPost w (fun _ : Unit => .bool true) fun _ _ => True) := by
  by_cases hn : n ≤ 500
  case neg =>
    refine Good.enter Try.func8 rfl ?_
    refine Good.run (by kernel_rfl) (stop := 3) 1000 _ ?_
    refine Good.slot 11 (.bool (decide ((n : Int) > 500))) (.bool true) (by kernel_rfl) (by rw [decide_eq_true (by omega)]) ?_
    refine Good.run (by kernel_rfl) (stop := 1000) 1000 _ ?_
    refine Good.cond true (by kernel_rfl) ?_
    refine Good.run (by kernel_rfl) (stop := 1000) 1000 _ ?_
    refine Good.callv (fun w1 hw h => texample4_m (hM.below hw)) (by kernel_rfl) (fun u => ?_)
    refine Good.run (by kernel_rfl) (stop := 1000) 1000 _ ?_
    refine Good.ret (v := .bool true) (by kernel_rfl) (fun w1 hw h => ⟨(), rfl, hw, fun _ _ _ => trivial⟩)
  by_cases hL : l.length ≤ 1000
  case neg =>
    refine Good.enter Try.func8 rfl ?_
    refine Good.run (by kernel_rfl) (stop := 3) 1000 _ ?_
    refine Good.slot 11 (.bool (decide ((n : Int) > 500))) (.bool false) (by kernel_rfl) (by rw [decide_eq_false (by omega)]) ?_
    refine Good.run (by kernel_rfl) (stop := 1000) 1000 _ ?_
    refine Good.condr (decide ((l.length : Int) > 1000)) true (by kernel_rfl) (by simp; omega) ?_
    refine Good.run (by kernel_rfl) (stop := 1000) 1000 _ ?_
    refine Good.callv (fun w1 hw h => texample4_m (hM.below hw)) (by kernel_rfl) (fun u => ?_)
    refine Good.run (by kernel_rfl) (stop := 1000) 1000 _ ?_
    refine Good.ret (v := .bool true) (by kernel_rfl) (fun w1 hw h => ⟨(), rfl, hw, fun _ _ _ => trivial⟩)
  refine Good.enter Try.func8 rfl ?_
  refine Good.run (by kernel_rfl) (stop := 3) 1000 _ ?_
  refine Good.slot 11 (.bool (decide ((n : Int) > 500))) (.bool false) (by kernel_rfl) (by rw [decide_eq_false (by omega)]) ?_
  refine Good.run (by kernel_rfl) (stop := 1000) 1000 _ ?_
  refine Good.condr (decide ((l.length : Int) > 1000)) false (by kernel_rfl) (by simp; omega) ?_
  refine Good.run (by kernel_rfl) (stop := 1000) 1000 _ ?_
  cases hd : decL l with
  | none =>
    refine Good.callv (fun w1 hw h => xdecode_n hd (by omega)) (by kernel_rfl) (fun u => ?_)
    refine Good.run (by kernel_rfl) (stop := 1000) 1000 _ ?_
    refine Good.callv (fun w1 hw h => rdecode_n hd (by omega)) (by kernel_rfl) (fun u => ?_)
    refine Good.run (by kernel_rfl) (stop := 1000) 1000 _ ?_
    refine Good.callv (fun w1 hw h => xencode_m (c := c) (hb.below hw) (by omega)) (by kernel_rfl) (fun u => ?_)
    refine Good.run (by kernel_rfl) (stop := 1000) 1000 _ ?_
    refine Good.callv (fun w1 hw h => rencode_m (c := c) (hb.below hw) (by omega)) (by kernel_rfl) (fun u => ?_)
    refine Good.run (by kernel_rfl) (stop := 4) 1000 _ ?_
    refine Good.ask (opS .eql 9 (.tmp 29) (.tmp 31) (strOf (encL bs)) (strOf (encL bs))) (.bool true) (by kernel_rfl) (fun w1 hw h => run_eqS (by simp)) ?_
    refine Good.run (by kernel_rfl) (stop := 7) 1000 _ ?_
    refine Good.ask (cvS 45 9 (.slice none 0 0)) (strOf []) (by kernel_rfl) (fun w1 hw h => run_cv (e := 5) (B := 0) (l := []) (by kernel_rfl) (by kernel_rfl) (by kernel_rfl) OwnR.nil_) ?_
    refine Good.run (by kernel_rfl) (stop := 9) 1000 _ ?_
    refine Good.ask (cvS 45 9 (.slice none 0 0)) (strOf []) (by kernel_rfl) (fun w1 hw h => run_cv (e := 5) (B := 0) (l := []) (by kernel_rfl) (by kernel_rfl) (by kernel_rfl) OwnR.nil_) ?_
    refine Good.run (by kernel_rfl) (stop := 10) 1000 _ ?_
    refine Good.ask (opS .eql 9 (.tmp 35) (.tmp 37) (strOf []) (strOf [])) (.bool true) (by kernel_rfl) (fun w1 hw h => run_eqS (by simp)) ?_
    refine Good.run (by kernel_rfl) (stop := 1000) 1000 _ ?_
    refine Good.callv (fun w1 hw h => texample4_m (hM.below hw)) (by kernel_rfl) (fun u => ?_)
    refine Good.run (by kernel_rfl) (stop := 1000) 1000 _ ?_
    refine Good.ret (v := .bool true) (by kernel_rfl) (fun w1 hw h => ⟨(), rfl, hw, fun _ _ _ => trivial⟩)
  | some p =>
    refine Good.callv (fun w1 hw h => xdecode_s hd (by omega)) (by kernel_rfl) (fun d => ?_)
    refine Good.run (by kernel_rfl) (stop := 1000) 1000 _ ?_
    refine Good.callv (fun w1 hw h => rdecode_s hd (by omega)) (by kernel_rfl) (fun f => ?_)
    refine Good.run (by kernel_rfl) (stop := 1000) 1000 _ ?_
    refine Good.callv (fun w1 hw h => xencode_m (c := c) (hb.below hw) (by omega)) (by kernel_rfl) (fun u => ?_)
    refine Good.run (by kernel_rfl) (stop := 1000) 1000 _ ?_
    refine Good.callv (fun w1 hw h => rencode_m (c := c) (hb.below hw) (by omega)) (by kernel_rfl) (fun u => ?_)
    refine Good.run (by kernel_rfl) (stop := 4) 1000 _ ?_
    refine Good.ask (opS .eql 9 (.tmp 29) (.tmp 31) (strOf (encL bs)) (strOf (encL bs))) (.bool true) (by kernel_rfl) (fun w1 hw h => run_eqS (by simp)) ?_
    refine Good.run (by kernel_rfl) (stop := 7) 1000 _ ?_
    refine Good.ask (cvS 45 9 (.slice d.1 p.length d.2)) (strOf p) (by kernel_rfl) (fun w1 hw h => run_cv (by kernel_rfl) (by kernel_rfl) (by kernel_rfl) h.1.1.1.2) ?_
    refine Good.run (by kernel_rfl) (stop := 9) 1000 _ ?_
    refine Good.ask (cvS 45 9 (.slice f.1 p.length f.2)) (strOf p) (by kernel_rfl) (fun w1 hw h => run_cv (by kernel_rfl) (by kernel_rfl) (by kernel_rfl) h.1.1.2) ?_
    refine Good.run (by kernel_rfl) (stop := 10) 1000 _ ?_
    refine Good.ask (opS .eql 9 (.tmp 35) (.tmp 37) (strOf p) (strOf p)) (.bool true) (by kernel_rfl) (fun w1 hw h => run_eqS (by simp)) ?_
    refine Good.run (by kernel_rfl) (stop := 1000) 1000 _ ?_
    refine Good.callv (fun w1 hw h => texample4_m (hM.below hw)) (by kernel_rfl) (fun u => ?_)
    refine Good.run (by kernel_rfl) (stop := 1000) 1000 _ ?_
    refine Good.ret (v := .bool true) (by kernel_rfl) (fun w1 hw h => ⟨(), rfl, hw, fun _ _ _ => trivial⟩)
set_option maxRecDepth 100000 in
set_option maxHeartbeats 1000000 in
theorem lawHexRound (hM : ML w) (hb : BytesAt w A n bs) : Calls Try.prog 9 #[.slice A n c, strOf l] w (CallPost w (fun _ : Unit => .bool true) fun _ _ => True) := by
  by_cases hn : n ≤ 500
  case neg =>
    refine Good.enter Try.func9 rfl ?_
    refine Good.run (by kernel_rfl) (stop := 3) 1000 _ ?_
    refine Good.slot 11 (.bool (decide ((n : Int) > 500))) (.bool true) (by kernel_rfl) (by rw [decide_eq_true (by omega)]) ?_
    refine Good.run (by kernel_rfl) (stop := 1000) 1000 _ ?_
    refine Good.cond true (by kernel_rfl) ?_
    refine Good.run (by kernel_rfl) (stop := 1000) 1000 _ ?_
    refine Good.callv (fun w1 hw h => texample4_m (hM.below hw)) (by kernel_rfl) (fun u => ?_)
    refine Good.run (by kernel_rfl) (stop := 1000) 1000 _ ?_
    refine Good.ret (v := .bool true) (by kernel_rfl) (fun w1 hw h => ⟨(), rfl, hw, fun _ _ _ => trivial⟩)
  by_cases hL : l.length ≤ 1000
  case neg =>
    refine Good.enter Try.func9 rfl ?_
    refine Good.run (by kernel_rfl) (stop := 3) 1000 _ ?_
    refine Good.slot 11 (.bool (decide ((n : Int) > 500))) (.bool false) (by kernel_rfl) (by rw [decide_eq_false (by omega)]) ?_
    refine Good.run (by kernel_rfl) (stop := 1000) 1000 _ ?_
    refine Good.condr (decide ((l.length : Int) > 1000)) true (by kernel_rfl) (by simp; omega) ?_
    refine Good.run (by kernel_rfl) (stop := 1000) 1000 _ ?_
    refine Good.callv (fun w1 hw h => texample4_m (hM.below hw)) (by kernel_rfl) (fun u => ?_)
    refine Good.run (by kernel_rfl) (stop := 1000) 1000 _ ?_
    refine Good.ret (v := .bool true) (by kernel_rfl) (fun w1 hw h => ⟨(), rfl, hw, fun _ _ _ => trivial⟩)
  have hle : (encL bs).length = 2 * n := by rw [encL_len, hb.1]
  refine Good.enter Try.func9 rfl ?_
  refine Good.run (by kernel_rfl) (stop := 3) 1000 _ ?_
  refine Good.slot 11 (.bool (decide ((n : Int) > 500))) (.bool false) (by kernel_rfl) (by rw [decide_eq_false (by omega)]) ?_
  refine Good.run (by kernel_rfl) (stop := 1000) 1000 _ ?_
  refine Good.condr (decide ((l.length : Int) > 1000)) false (by kernel_rfl) (by simp; omega) ?_
  refine Good.run (by kernel_rfl) (stop := 1000) 1000 _ ?_
  refine Good.callv (fun w1 hw h => xencode_m (c := c) (hb.below hw) (by omega)) (by kernel_rfl) (fun u => ?_)
  refine Good.run (by kernel_rfl) (stop := 1000) 1000 _ ?_
  refine Good.callv (fun w1 hw h => xdecode_s (decL_enc bs) (by omega)) (by kernel_rfl) (fun d => ?_)
  refine Good.run (by kernel_rfl) (stop := 0) 1000 _ ?_
  refine Good.run (by kernel_rfl) (stop := 4) 1000 _ ?_
  refine Good.ask (cvS 45 9 (.slice d.1 bs.length d.2)) (strOf bs) (by kernel_rfl) (fun w1 hw h => run_cv (by kernel_rfl) (by kernel_rfl) (by kernel_rfl) h.2) ?_
  refine Good.run (by kernel_rfl) (stop := 6) 1000 _ ?_
  refine Good.ask (cvS 45 9 (.slice A n c)) (strOf bs) (by kernel_rfl) (fun w1 hw h => run_cvB (e := 5) (by kernel_rfl) (by kernel_rfl) (by kernel_rfl) (hb.below hw)) ?_
  refine Good.run (by kernel_rfl) (stop := 7) 1000 _ ?_
  refine Good.ask (opS .neq 9 (.tmp 28) (.tmp 30) (strOf bs) (strOf bs)) (.bool false) (by kernel_rfl) (fun w1 hw h => run_neS (by simp)) ?_
  refine Good.run (by kernel_rfl) (stop := 1000) 1000 _ ?_
  refine Good.callv (fun w1 hw h => xencode_m (c := c) (hb.below hw) (by omega)) (by kernel_rfl) (fun u => ?_)
  refine Good.run (by kernel_rfl) (stop := 17) 1000 _ ?_
  refine Good.slot 40 (.bool (((encL bs).length : Int) != IntKind.i64.wrap (2 * (n : Int)))) (.bool false) (by kernel_rfl) (by rw [hle, IntWalk.i64_in _ (by omega)]; simp) ?_
  refine Good.run (by kernel_rfl) (stop := 1000) 1000 _ ?_
  refine Good.cond false (by kernel_rfl) ?_
  refine Good.run (by kernel_rfl) (stop := 1000) 1000 _ ?_
  cases hd : decL l with
  | none =>
    refine Good.callv (fun w1 hw h => xdecode_n hd (by omega)) (by kernel_rfl) (fun u => ?_)
    refine Good.run (by kernel_rfl) (stop := 1000) 1000 _ ?_
    refine Good.callv (fun w1 hw h => texample4_m (hM.below hw)) (by kernel_rfl) (fun u => ?_)
    refine Good.run (by kernel_rfl) (stop := 1000) 1000 _ ?_
    refine Good.ret (v := .bool true) (by kernel_rfl) (fun w1 hw h => ⟨(), rfl, hw, fun _ _ _ => trivial⟩)
  | some p =>
    have he := encL_dec hd
    have hp : p.length ≤ 1000 := by have := encL_len p; rw [he] at this; omega
    refine Good.callv (fun w1 hw h => xdecode_s hd (by omega)) (by kernel_rfl) (fun f => ?_)
    refine Good.run (by kernel_rfl) (stop := 1000) 1000 _ ?_
    refine Good.callv (fun w1 hw h => xencode_m (c := f.2) (h.2).bytes hp) (by kernel_rfl) (fun u => ?_)
    refine Good.run (by kernel_rfl) (stop := 6) 1000 _ ?_
    refine Good.ask (opS .eql 9 (.tmp 51) (.tmp 52) (strOf (encL p)) (strOf l)) (.bool true) (by kernel_rfl) (fun w1 hw h => run_eqS (by rw [he]; simp)) ?_
    refine Good.run (by kernel_rfl) (stop := 1000) 1000 _ ?_
    refine Good.callv (fun w1 hw h => texample4_m (hM.below hw)) (by kernel_rfl) (fun u => ?_)
    refine Good.run (by kernel_rfl) (stop := 1000) 1000 _ ?_
    refine Good.ret (v := .bool true) (by kernel_rfl) (fun w1 hw h => ⟨(), rfl, hw, fun _ _ _ => trivial⟩)
theorem rowHex {s : ByteArray} (hM : ML w) (h : Rd w (.sl 1 (.int .u8)) [.slice A n c]) : Calls Try.prog 8 #[.slice A n c, .string s] w (Done w) := by
  obtain ⟨bs, hb⟩ := rd_bytes h
  exact (lawHex (l := s.data.toList) hM hb).mono fun _ _ h => law_done h
theorem rowHexRound {s : ByteArray} (hM : ML w) (h : Rd w (.sl 1 (.int .u8)) [.slice A n c]) : Calls Try.prog 9 #[.slice A n c, .string s] w (Done w) := by
  obtain ⟨bs, hb⟩ := rd_bytes h
  exact (lawHexRound (l := s.data.toList) hM hb).mono fun _ _ h => law_done h
end

end Go.Proofs.Ytlpnjoenkohadaa
