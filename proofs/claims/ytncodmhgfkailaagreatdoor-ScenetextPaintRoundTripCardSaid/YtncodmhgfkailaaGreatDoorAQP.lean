/-
 Fractions, the program's and the reference's.
-/
import Derived.Test.YtncodmhgfkailaaGreatDoorAAn
import Derived.Test.YtncodmhgfkailaaGreatDoorAIm
namespace Go.Proofs.YtncodmhgfkailaaGreatDoor
set_option maxRecDepth 100000
set_option maxHeartbeats 8000000
set_option linter.unusedVariables false
set_option linter.unusedSimpArgs false
open Go.RowKit
structure RV where
 a : SV
 b : SV
@[reducible] def RV.val (r : RV) : Value := .agg #[.bool r.a.s, .slice r.a.A r.a.n r.a.c, .bool r.b.s, .slice r.b.A r.b.n r.b.c]
def IsQ (r : RV) (q : Rat) (K : Nat) (w : World) : Prop := ∃ x y : Int, O1 r.a x K w ∧ O1 r.b y K w ∧ q = Rat.divInt x y
def Mh (r : RV) (q : Rat) (K : Nat) (w : World) : Prop := R1 r.a q.num K w ∧ R1 r.b q.den K w
theorem qfromInt_m (z : Int) (w : World) (h1 : -9223372036854775808 ≤ z) (h2 : z ≤ 9223372036854775807) : Calls Tryz.prog 224 #[.int .i64 z] w (K5 w RV.val fun r w => Mh r z 2 w) := by
 refine K0.enter Tryz.func224 rfl ?_
 refine ZR ?_
 refine ZC (fun w hb h => fromInt_m z w h1 h2) fun x => ?_
 refine ZC (fun w hb h => fromInt_m 1 w Zd Zd) fun y => ?_
 refine ZV (RV.val ⟨x, y⟩) ?_
 exact fun w hb h => ⟨⟨x, y⟩, rfl, hb, fun w'' k1 k2 => ⟨(h w'' k1 k2).1.2, (h w'' k1 k2).2⟩⟩
theorem gcd_m {a b : DV} {x y K : Nat} {w : World} (ha : IsU a x K w) (hb : IsU b y K w) (hK : K ≤ 274877906944) :
 Calls Tryz.prog 231 #[a.val, b.val] w (K5 w DV.val fun v w => IsUN v (Nat.gcd x y) K w) := by
 refine (gcd_c w ha.1 hb.1 (by have := ha.2.2; omega) (by have := hb.2.2; omega)).mono fun _ _ h => ?_
 rw [ha.2.1, hb.2.1] at h
 refine h.post ?_
 rcases Nat.eq_zero_or_pos x with e | e
 ·rw [e, Nat.gcd_zero_left]; exact hb.lt
 ·exact Nat.lt_of_le_of_lt (Nat.gcd_le_left _ e) ha.lt
theorem rgcd_m {a b : DV} {x y K : Nat} {w : World} (ha : IsU a x K w) (hb : IsU b y K w) (hK : K ≤ 1073741824) :
 Calls Tryz.prog 237 #[a.val, b.val] w (K5 w DV.val fun v w => IsUN v (Nat.gcd x y) K w) := by
 refine (refGcd_c w ha.1 hb.1 (by have := ha.2.2; omega) (by have := hb.2.2; omega)).mono fun _ _ h => ?_
 rw [ha.2.1, hb.2.1] at h
 refine h.post ?_
 rcases Nat.eq_zero_or_pos x with e | e
 ·rw [e, Nat.gcd_zero_left]; exact hb.lt
 ·exact Nat.lt_of_le_of_lt (Nat.gcd_le_left _ e) ha.lt
def DmVal (y : Nat) (q : DV × DV) : Value := .tuple #[q.1.val, q.2.val, .int .i64 (divE y)]
theorem divmod_m {a b : DV} {x y K : Nat} {w : World} (ha : IsU a x K w) (hb : IsU b y K w) (hK : K ≤ 274877906944) :
 Calls Tryz.prog 233 #[a.val, b.val] w (K5 w (DmVal y) fun q w => IsUN q.1 (x / y) K w) := by
 refine (divmod_c w ha.1 hb.1 (by have := ha.2.2; omega) (by have := hb.2.2; omega)).mono fun _ _ h => ?_
 obtain ⟨A1, n1, c1, l1, A2, n2, c2, l2, rfl, N1, v1, N2, v2, o1, o2, hb2⟩ := h
 rw [ha.2.1, hb.2.1] at v1
 refine ⟨(⟨A1, n1, c1, l1⟩, ⟨A2, n2, c2, l2⟩), by rw [hb.2.1]; rfl, hb2, fun w'' h1 h2 => ⟨⟨(o1.mid h1 h2).toIn, v1, ?_⟩, N1⟩⟩
 have h3 := N1.length_le (k := K) (by rw [v1]; exact Nat.lt_of_le_of_lt (Nat.div_le_self _ _) ha.lt)
 rw [o1.len] at h3
 exact h3
theorem run_load1 {P : Program} {t : TypeId} {p : Addr} {v : Value} {w : World} (ht : isRowT P t = some false) (hc : w.cell? p = some v) :
 (Instr.loadAt t (.pointer (some p)) >>= fun v => (pure (.value v) : Sem Next)).run P w = .ok (.value v) w := by
 have hagg : (isAgg t).run P w = .ok false w := by
  unfold isRowT at ht
  split at ht
  ·cases ht
  ·cases ht
  ·rename_i d hn1 hn2 hd
   unfold isAgg
   rw [Sem.run_bind, run_underlying hd w]
   cases d <;> first | rfl | (exfalso; first | exact hn1 _ rfl | exact hn2 _ _ rfl) | (exfalso; first | exact hn1 _ hd | exact hn2 _ _ hd)
  ·cases ht
 have hl : (load p).run P w = .ok v w := by simp [run_load, hc]
 simp only [Sem.run_bind, Instr.loadAt, Instr.sureAddr, Sem.run_pure, Result.andThen_ok, loadVar, hagg, hl, Bool.false_eq_true, if_false]
theorem cell_one {β : Nat} {w : World} {v : Value} {ty : TypeId} (h : w.heap[β]? = some (.cells #[v] ty (0, 0))) : w.cell? ⟨β, 0, none⟩ = some v := by simp [World.cell?, h]
theorem part_m {a : SV} {b : DV} {x : Int} {y K : Nat} {w : World} {p : Addr} (ha : O1 a x K w) (hp : w.cell? p = some b.val) (hb : IsU b y K w) (hK : K ≤ 274877906944) :
 Calls Tryz.prog 232 #[a.val, .pointer (some p)] w (K5 w DV.val fun v w => IsUN v (x.natAbs / y) K w) := by
 refine K0.enter Tryz.func232 rfl ?_
 refine ZS 2 ?_
 refine ZA (Instr.loadAt 30 (.pointer (some p)) >>= fun v => (pure (.value v) : Sem Next)) b.val (fun w' hbl _ => run_load1 Zk (Mw hbl hp)) ?_
 refine ZC (fun w1 hw h => divmod_m (ha.d.below hw) (hb.below hw) hK) fun q => ?_
 refine ZV (q.1.val) (fun w1 hw h => ⟨q.1, rfl, hw, fun w'' k1 k2 => (h w'' k1 k2).2⟩)
theorem num_parts {x y : Int} (hy : y ≠ 0) : zi (decide (Ny x * Ny y < 0)) (x.natAbs / Nat.gcd x.natAbs y.natAbs) = (Rat.divInt x y).num := by
 rw [Rat.num_divInt]
 have hg : (y.gcd x : Nat) = Nat.gcd x.natAbs y.natAbs := Nat.gcd_comm _ _
 rw [hg]
 have hd : Nat.gcd x.natAbs y.natAbs ∣ x.natAbs := Nat.gcd_dvd_left _ _
 generalize Nat.gcd x.natAbs y.natAbs = g at hd ⊢
 have hd' : (g : Int) ∣ (x.natAbs : Int) := Int.natCast_dvd_natCast.2 hd
 have hneg : (-(x.natAbs : Int)) / (g : Int) = -((x.natAbs : Int) / g) := Int.neg_ediv_of_dvd hd'
 rcases Int.lt_trichotomy x 0 with h | h | h
 ·have e : (x.natAbs : Int) = -x := by omega
  have s1 : Ny x = -1 := by simp [Ny, h]
  rcases Int.lt_trichotomy y 0 with k | k | k
  ·have s2 : Ny y = -1 := by simp [Ny, k]
   rw [s1, s2, Int.sign_eq_neg_one_of_neg k, show -1 * x = (x.natAbs : Int) by omega]
   simp [zi]
  ·exact absurd k hy
  ·have s2 : Ny y = 1 := by unfold Ny; rw [if_neg Zo, if_neg Zo]
   rw [s1, s2, Int.sign_eq_one_of_pos k, show 1 * x = -(x.natAbs : Int) by omega, hneg]
   simp [zi]
 ·subst h
  simp [zi, Ny]
 ·have e : (x.natAbs : Int) = x := by omega
  have s1 : Ny x = 1 := by unfold Ny; rw [if_neg Zo, if_neg Zo]
  rcases Int.lt_trichotomy y 0 with k | k | k
  ·have s2 : Ny y = -1 := by simp [Ny, k]
   rw [s1, s2, Int.sign_eq_neg_one_of_neg k, show -1 * x = -(x.natAbs : Int) by omega, hneg]
   simp [zi]
  ·exact absurd k hy
  ·have s2 : Ny y = 1 := by unfold Ny; rw [if_neg Zo, if_neg Zo]
   rw [s1, s2, Int.sign_eq_one_of_pos k, show 1 * x = (x.natAbs : Int) by omega]
   simp [zi]
theorem den_parts {x y : Int} (hy : y ≠ 0) : zi false (y.natAbs / Nat.gcd x.natAbs y.natAbs) = ((Rat.divInt x y).den : Int) := by
 rw [Rat.den_divInt, if_neg hy]
 have hg : (y.gcd x : Nat) = Nat.gcd x.natAbs y.natAbs := Nat.gcd_comm _ _
 rw [hg]
 simp [zi]
theorem add_divInt {a b : Rat} : Rat.divInt (a.num * b.den + b.num * a.den) (a.den * b.den) = a + b := by
 have h := Rat.divInt_add_divInt a.num b.num (d₁ := a.den) (d₂ := b.den) (by have := a.den_nz; omega) (by have := b.den_nz; omega)
 rw [Rat.num_divInt_den, Rat.num_divInt_den] at h
 exact h.symm
theorem sub_divInt {a b : Rat} : Rat.divInt (a.num * b.den - b.num * a.den) (a.den * b.den) = a - b := by
 have h := Rat.divInt_sub_divInt a.num b.num (d₁ := a.den) (d₂ := b.den) (by have := a.den_nz; omega) (by have := b.den_nz; omega)
 rw [Rat.num_divInt_den, Rat.num_divInt_den] at h
 exact h.symm
theorem mul_divInt {a b : Rat} : Rat.divInt (a.num * b.num) (a.den * b.den) = a * b := by
 have h := Rat.divInt_mul_divInt a.num b.num (d₁ := a.den) (d₂ := b.den)
 rw [Rat.num_divInt_den, Rat.num_divInt_den] at h
 exact h.symm
theorem den_mul_nz (a b : Rat) : (a.den : Int) * b.den ≠ 0 := Int.mul_ne_zero (by have := a.den_nz; omega) (by have := b.den_nz; omega)
theorem cmp_rat {a b : Rat} : Ny (a.num * b.den - b.num * a.den) = if a < b then -1 else if a = b then 0 else 1 := by
 unfold Ny
 have h1 := Rat.lt_iff a b
 have h2 := Rat.lt_iff b a
 by_cases h : a < b
 ·rw [if_pos h, if_pos (by have := h1.1 h; omega)]
 ·rw [if_neg h, if_neg (fun k => h (h1.2 Zo))]
  by_cases e : a = b
  ·rw [if_pos e, if_pos (by rw [e]; omega)]
  ·rw [if_neg e, if_neg]
   intro k
   have := Rat.le_antisymm (Rat.not_lt.1 fun q => by have := h2.1 q; omega) (Rat.not_lt.1 h)
   exact e this
theorem divInt_bd {x y : Int} {K : Nat} (hx : x.natAbs < pw K) (hy : y.natAbs < pw K) (h0 : y ≠ 0) : (Rat.divInt x y).num.natAbs < pw K ∧ ((Rat.divInt x y).den : Int).natAbs < pw K := by
 rw [← num_parts h0, ← den_parts h0, zi_abs, zi_abs]
 exact ⟨Nat.lt_of_le_of_lt (Nat.div_le_self _ _) hx, Nat.lt_of_le_of_lt (Nat.div_le_self _ _) hy⟩
theorem IsUN.sv {v : DV} {k K : Nat} {w : World} (s : Bool) (h : IsUN v k K w) : O1 ⟨s, v.A, v.n, v.c, v.l⟩ (zi s k) K w := ⟨h.1.1, by rw [← h.1.2.1], h.1.2.2⟩
theorem R1.cast' {v : SV} {x y : Int} {K : Nat} {w : World} (h : R1 v x K w) (e : x = y) : R1 v y K w := by rw [← e]; exact h
theorem gcd_nz {x y : Int} (hy : y ≠ 0) : Nat.gcd x.natAbs y.natAbs ≠ 0 := fun e => by
 have := (Nat.gcd_eq_zero_iff.1 e).2; omega
theorem cell_box {g : Nat} {w : World} {v : Value} (h : ∃ ty, w.heap[g]? = some (.cells #[v] ty (0, 0))) : w.cell? ⟨g, 0, none⟩ = some v := by
 obtain ⟨ty, h⟩ := h
 exact cell_one h
theorem sgn_is (x : Int) : Ny x = -1 ∨ Ny x = 0 ∨ Ny x = 1 := by unfold Ny; split <;> (try split) <;> simp
theorem wrap_sgn (x y : Int) : IntKind.i64.wrap (Ny x * Ny y) = Ny x * Ny y := by
 refine IntWalk.i64_in _ ?_
 rcases sgn_is x with e | e | e <;> rcases sgn_is y with k | k | k <;> rw [e, k] <;> decide
theorem lowest_m {a b : SV} {x y : Int} {K : Nat} {w : World} (ha : O1 a x K w) (hb : O1 b y K w) (hy : y ≠ 0) (hK : K ≤ 68719476736) :
 Calls Tryz.prog 179 #[a.val, b.val] w (K5 w RV.val fun r w => Mh r (Rat.divInt x y) K w) := by
 have hbd := divInt_bd ha.lt hb.lt hy
 have hg := gcd_nz (x := x) hy
 refine K0.enter Tryz.func179 rfl ?_
 refine ZR ?_
 refine ZC (fun w1 hw h => gcd_m (ha.d.below hw) (hb.d.below hw) Zo) fun g => ?_
 refine ZC (fun w1 hw h => isign_m (ha.below hw) Zo) fun u => ?_
 refine ZC (fun w1 hw h => isign_m (hb.below hw) Zo) fun u => ?_
 refine K0.call (val := DV.val) (G := fun v w => IsUN v (x.natAbs / Nat.gcd x.natAbs y.natAbs) K w) (xs := [.v a.val, .p 5 0]) Zk (fun β w1 hw h hB => part_m (ha.below hw) (cell_box (box_of hB (k := 5) (by simp [AV.ids]) (cs := [.v g.val]) Zk)) h.1.1.2.1 Zo) (fun p => ?_)
 refine ZR ?_
 refine ZC (fun w1 hw h => inew_m (IsUN.sv (decide (IntKind.i64.wrap (Ny x * Ny y) < 0)) h.2) Zo) fun n => ?_
 refine K0.call (val := DV.val) (G := fun v w => IsUN v (y.natAbs / Nat.gcd x.natAbs y.natAbs) K w) (xs := [.v b.val, .p 5 0]) Zk (fun β w1 hw h hB => part_m (hb.below hw) (cell_box (box_of hB (k := 5) (by simp [AV.ids]) (cs := [.v g.val]) Zk)) h.1.1.1.1.2.1 Zo) (fun q => ?_)
 refine ZR ?_
 refine ZC (fun w1 hw h => inew_m (IsUN.sv false h.2) Zo) fun d => ?_
 refine ZV (RV.val ⟨n, d⟩) (fun w1 hw h => ⟨⟨n, d⟩, rfl, hw, fun w'' k1 k2 => ⟨Q3 ((h w'' k1 k2).1.1.2.cast' (by rw [wrap_sgn]; exact num_parts hy)) hbd.1, Q3 ((h w'' k1 k2).2.cast' (den_parts hy)) hbd.2⟩⟩)
def SV0 : SV := ⟨false, none, 0, 0, []⟩
def RV0 : RV := ⟨SV0, SV0⟩
def IsQE (r : RV) (x y : Int) (K : Nat) (w : World) : Prop := if y = 0 then r = RV0 else Mh r (Rat.divInt x y) K w
theorem IsQE.zero {x y : Int} {K : Nat} {w : World} (h : y = 0) : IsQE RV0 x y K w := by unfold IsQE; rw [if_pos h]
theorem IsQE.of {r : RV} {x y : Int} {K : Nat} {w : World} (h : y ≠ 0) (hr : Mh r (Rat.divInt x y) K w) : IsQE r x y K w := by unfold IsQE; rw [if_neg h]; exact hr
theorem IsQE.n {r : RV} {x y : Int} {K : Nat} {w : World} (h : IsQE r x y K w) (hy : y ≠ 0) : Mh r (Rat.divInt x y) K w := by unfold IsQE at h; rw [if_neg hy] at h; exact h
def QEVal (y : Int) (r : RV) : Value := .tuple #[r.val, .int .i64 (divEI y)]
theorem Pr (y : Int) : (Ny y == 0) = decide (y = 0) := by
 unfold Ny
 by_cases h : y < 0
 ·rw [if_pos h, decide_eq_false Zo]; rfl
 ·rw [if_neg h]
  by_cases e : y = 0
  ·rw [if_pos e, decide_eq_true e]; rfl
  ·rw [if_neg e, decide_eq_false e]; rfl
theorem divEI_no {y : Int} (h : y ≠ 0) : divEI y = 0 := if_neg h
theorem divEI_yes {y : Int} (h : y = 0) : divEI y = 9 := if_pos h
theorem qnew_m {a b : SV} {x y : Int} {K : Nat} {w : World} (ha : O1 a x K w) (hb : O1 b y K w) (hK : K ≤ 68719476736) :
 Calls Tryz.prog 223 #[a.val, b.val] w (K5 w (QEVal y) fun r w => IsQE r x y K w) := by
 by_cases hy : y = 0
 ·
  refine K0.enter Tryz.func223 rfl ?_
  refine ZR ?_
  refine ZC (fun w1 hw h => isign_m (hb.below hw) Zo) fun u => ?_
  refine ZJ (Ny y == 0) true (by rw [Pr, decide_eq_true hy]) ?_
  refine ZV (.tuple #[RV0.val, .int .i64 9]) (fun w1 hw h => ⟨RV0, by unfold QEVal; rw [divEI_yes hy], hw, fun w'' k1 k2 => .zero hy⟩)
 ·
  refine K0.enter Tryz.func223 rfl ?_
  refine ZR ?_
  refine ZC (fun w1 hw h => isign_m (hb.below hw) Zo) fun u => ?_
  refine ZJ (Ny y == 0) false (by rw [Pr, decide_eq_false hy]) ?_
  refine ZC (fun w1 hw h => lowest_m (ha.below hw) (hb.below hw) hy hK) fun r => ?_
  refine ZV (.tuple #[r.val, .int .i64 0]) (fun w1 hw h => ⟨r, by unfold QEVal; rw [divEI_no hy], hw, fun w'' k1 k2 => .of hy (h w'' k1 k2).2⟩)
theorem divInt_zero' (x : Int) : Rat.divInt x 0 = 0 := Rat.divInt_zero x
theorem Lq {a : RV} {q : Rat} {K : Nat} {w : World} (ha : IsQ a q K w) (hK : 2 ≤ K ∧ K ≤ 68719476736) :
 Calls Tryz.prog 171 #[a.val] w (K5 w RV.val fun r w => Mh r q K w) := by
 obtain ⟨x, y, hx, hy, hq⟩ := ha
 by_cases h0 : y = 0
 ·have hq0 : q = 0 := by rw [hq, h0, divInt_zero']
  refine K0.enter Tryz.func171 rfl ?_
  refine ZR ?_
  refine ZC (fun w1 hw h => qnew_m (hx.below hw) (hy.below hw) hK.2) fun r => ?_
  refine ZJ (divEI y != 0) true (by rw [divEI_yes h0]; rfl) ?_
  refine ZC (fun w1 hw h => qfromInt_m 0 w1 Zd Zd) fun z => ?_
  refine ZV (RV.val z) (fun w1 hw h => ⟨z, rfl, hw, fun w'' k1 k2 => by rw [hq0]; exact ⟨(h w'' k1 k2).2.1.mono hK.1, (h w'' k1 k2).2.2.mono hK.1⟩⟩)
 ·
  refine K0.enter Tryz.func171 rfl ?_
  refine ZR ?_
  refine ZC (fun w1 hw h => qnew_m (hx.below hw) (hy.below hw) hK.2) fun r => ?_
  refine ZJ (divEI y != 0) false (by rw [divEI_no h0]; rfl) ?_
  refine ZV (RV.val r) (fun w1 hw h => ⟨r, rfl, hw, fun w'' k1 k2 => by rw [hq]; exact (h w'' k1 k2).2.n h0⟩)
theorem Mh.q {r : RV} {q : Rat} {K : Nat} {w : World} (h : Mh r q K w) : IsQ r q K w := ⟨q.num, q.den, h.1.1, h.2.1, (Rat.num_divInt_den q).symm⟩
theorem IsQ.below {r : RV} {q : Rat} {K : Nat} {w w' : World} (h : IsQ r q K w) (hb : Below w.heap.size w w') : IsQ r q K w' := by
 obtain ⟨x, y, h1, h2, h3⟩ := h
 exact ⟨x, y, h1.below hb, h2.below hb, h3⟩
theorem IsQ.mono {r : RV} {q : Rat} {K K' : Nat} {w : World} (h : IsQ r q K w) (hK : K ≤ K') : IsQ r q K' w := by
 obtain ⟨x, y, h1, h2, h3⟩ := h
 exact ⟨x, y, h1.mono hK, h2.mono hK, h3⟩
theorem Mh.mono {r : RV} {q : Rat} {K K' : Nat} {w : World} (h : Mh r q K w) (hK : K ≤ K') : Mh r q K' w := ⟨h.1.mono hK, h.2.mono hK⟩
theorem Mh.cast {r : RV} {p q : Rat} {K : Nat} {w : World} (h : Mh r p K w) (e : p = q) : Mh r q K w := by rw [← e]; exact h
def cmpQ (p q : Rat) : Int := if p < q then -1 else if p = q then 0 else 1
section
variable {a b : RV} {p q : Rat} {K1 K2 : Nat} {w : World}
def CrossVal (t : SV × SV × SV) : Value := .tuple #[t.1.val, t.2.1.val, t.2.2.val]
theorem cross_m (ha : IsQ a p K1 w) (hb : IsQ b q K2 w) (hK : 2 ≤ K1 ∧ 2 ≤ K2 ∧ K1 + K2 ≤ 68719476736) :
 Calls Tryz.prog 107 #[a.val, b.val] w (K5 w CrossVal fun t w => R1 t.1 (p.num * q.den) (K1 + K2) w ∧ R1 t.2.1 (q.num * p.den) (K1 + K2) w ∧ R1 t.2.2 (p.den * q.den) (K1 + K2) w) := by
 refine K0.enter Tryz.func107 rfl ?_
 refine ZR ?_
 refine ZC (fun w1 hw h => Lq (ha.below hw) Zo) fun x => ?_
 refine ZC (fun w1 hw h => Lq (hb.below hw) Zo) fun y => ?_
 refine ZC (fun w1 hw h => imul_m h.1.2.1.i h.2.2.i Zo) fun u => ?_
 refine ZC (fun w1 hw h => imul_m h.1.2.1.i h.1.1.2.2.i Zo) fun v => ?_
 refine ZC (fun w1 hw h => imul_m h.1.1.1.2.2.i h.1.1.2.2.i Zo) fun t => ?_
 refine ZV (CrossVal (u, v, t)) (fun w1 hw h => ⟨(u, v, t), rfl, hw, fun w'' k1 k2 => ⟨(h w'' k1 k2).1.1.2, (h w'' k1 k2).1.2.mono Zo, (h w'' k1 k2).2⟩⟩)
theorem qcmp_m (ha : IsQ a p K1 w) (hb : IsQ b q K2 w) (hK : 2 ≤ K1 ∧ 2 ≤ K2 ∧ K1 + K2 ≤ 68719476736) :
 Calls Tryz.prog 48 #[a.val, b.val] w (K5 w (fun _ : Unit => .int .i64 (cmpQ p q)) fun _ _ => True) := by
 refine K0.enter Tryz.func48 rfl ?_
 refine ZR ?_
 refine ZC (fun w1 hw h => cross_m (ha.below hw) (hb.below hw) hK) fun t => ?_
 refine ZC (fun w1 hw h => icmp_m h.2.1.i h.2.2.1.i Zo) fun u => ?_
 exact ZX (.int .i64 (Ny (p.num * q.den - q.num * p.den))) (by rw [cmp_rat]; rfl)
theorem iadd_e {a b : SV} {x y : Int} {K : Nat} {w : World} (ha : O1 a x K w) (hb : O1 b y K w) (hK : K + 1 ≤ 68719476736) : Calls Tryz.prog 229 #[a.val, b.val] w (K5 w SV.val fun v w => R1 v (x + y) (K + 1) w) :=
 (iadd_m ha hb Zo).mono fun _ _ h => h.impG fun v u q => Q3 q (abs_add_lt ha.lt hb.lt)
theorem isub_e {a b : SV} {x y : Int} {K : Nat} {w : World} (ha : O1 a x K w) (hb : O1 b y K w) (hK : K + 1 ≤ 68719476736) : Calls Tryz.prog 178 #[a.val, b.val] w (K5 w SV.val fun v w => R1 v (x - y) (K + 1) w) :=
 (isub_m ha hb Zo).mono fun _ _ h => h.impG fun v u q => Q3 q (abs_sub_lt ha.lt hb.lt)
theorem qsub_m (ha : IsQ a p K1 w) (hb : IsQ b q K2 w) (hK : 2 ≤ K1 ∧ 2 ≤ K2 ∧ K1 + K2 ≤ 68719476000) :
 Calls Tryz.prog 109 #[a.val, b.val] w (K5 w RV.val fun r w => Mh r (p - q) (K1 + K2 + 1) w) := by
 refine K0.enter Tryz.func109 rfl ?_
 refine ZR ?_
 refine ZC (fun w1 hw h => cross_m (ha.below hw) (hb.below hw) Zo) fun t => ?_
 refine ZC (fun w1 hw h => isub_e h.2.1.i h.2.2.1.i Zo) fun s => ?_
 refine ZC (fun w1 hw h => lowest_m h.2.i (h.1.2.2.2.i.mono Zo) (den_mul_nz p q) Zo) fun r => ?_
 refine ZV (RV.val r) (fun w1 hw h => ⟨r, rfl, hw, fun w'' k1 k2 => (h w'' k1 k2).2.cast sub_divInt⟩)
theorem qmul_m (ha : IsQ a p K1 w) (hb : IsQ b q K2 w) (hK : 2 ≤ K1 ∧ 2 ≤ K2 ∧ K1 + K2 ≤ 68719476000) :
 Calls Tryz.prog 110 #[a.val, b.val] w (K5 w RV.val fun r w => Mh r (p * q) (K1 + K2) w) := by
 refine K0.enter Tryz.func110 rfl ?_
 refine ZR ?_
 refine ZC (fun w1 hw h => Lq (ha.below hw) Zo) fun x => ?_
 refine ZC (fun w1 hw h => Lq (hb.below hw) Zo) fun y => ?_
 refine ZC (fun w1 hw h => imul_m h.1.2.1.i h.2.1.i Zo) fun n => ?_
 refine ZC (fun w1 hw h => imul_m h.1.1.2.2.i h.1.2.2.i Zo) fun d => ?_
 refine ZC (fun w1 hw h => lowest_m h.1.2.i h.2.i (den_mul_nz p q) Zo) fun r => ?_
 refine ZV (RV.val r) (fun w1 hw h => ⟨r, rfl, hw, fun w'' k1 k2 => (h w'' k1 k2).2.cast mul_divInt⟩)
def IsQuo (r : RV) (p q : Rat) (K : Nat) (w : World) : Prop := if q = 0 then r = RV0 else Mh r (p / q) K w
end
def Kx (t : TypeId) (x : Value) (k : Int) : Sem Next := Instr.indexAt t x (.int .i64 k) >>= fun v => pure (.value v)
def Ln (t : TypeId) (p : Addr) : Sem Next := Instr.loadAt t (.pointer (some p)) >>= fun v => pure (.value v)
theorem Kh {P : Program} {t elem : TypeId} {ad : Addr} {n c k : Nat} {w : World} (hu : P.underlying t = some (.slice elem)) (hs : Of P elem = some 1) (hk : k < n) :
 (Kx t (.slice (some ad) n c) k).run P w = .ok (.value (.pointer (some (ad.add k)))) w := by
 have hb : 0 ≤ (k : Int) ∧ (k : Int) < (n : Int) := by omega
 simp only [Kx, Instr.indexAt, asIntOf, Sem.run_bind, Sem.run_pure, Result.andThen_ok, run_underlying hu, Ls hs, if_pos hb, Int.toNat_natCast, Nat.mul_one]
theorem K9 {P : Program} {t : TypeId} {p : Addr} {v : Value} {w : World} (ht : isRowT P t = some false) (hc : w.cell? p = some v) : (Ln t p).run P w = .ok (.value v) w := run_load1 ht hc
def Ps (a b : SV) : Bool := decide (a.s = b.s) && decide (a.l = b.l)
theorem sameB_no1 {a b : SV} (h : (a.s != b.s) = true) : Ps a b = false := by
 unfold Ps; rw [decide_eq_false (by simpa using h)]; rfl
theorem sameB_no2 {a b : SV} (h : a.l ≠ b.l) : Ps a b = false := by
 unfold Ps; rw [decide_eq_false h, Bool.and_false]
theorem sameB_yes {a b : SV} (h : (a.s != b.s) = false) (h2 : a.l = b.l) : Ps a b = true := by
 unfold Ps; rw [decide_eq_true (by simpa using h), decide_eq_true h2]; rfl
theorem lt_succ_all {l m : List Nat} {k : Nat} (h : ∀ i, i < k → dg l i = dg m i) (he : dg l k = dg m k) : ∀ i, i < k + 1 → dg l i = dg m i := by
 intro i hi
 rcases Nat.lt_or_ge i k with h1 | h1
 ·exact h i h1
 ·obtain rfl : i = k := by omega
  exact he
theorem dg_ext {l m : List Nat} (h : l.length = m.length) (hd : ∀ i, i < l.length → dg l i = dg m i) : l = m := by
 refine List.ext_getElem h fun i h1 h2 => ?_
 have := hd i h1
 unfold dg at this
 simpa [h1, h2] using this
theorem Kf {k n : Nat} (h : k < n) (hn : n ≤ 9223372036854775807) : IntKind.i64.wrap ((k : Int) + 1) = ((k + 1 : Nat) : Int) := by
 rw [IntWalk.i64_in _ Zo]; omega
theorem rsameInt_m {a b : SV} {x y : Int} {K1 K2 : Nat} {w : World} (ha : O1 a x K1 w) (hb : O1 b y K2 w) :
 Calls Tryz.prog 201 #[a.val, b.val] w (K5 w (fun _ : Unit => .bool (Ps a b)) fun _ _ => True) := by
 have hla := ha.inn.len
 have hlb := hb.inn.len
 have hnI := ha.inn.lenI
 refine K0.enter Tryz.func201 rfl ?_
 refine ZS 6 ?_
 cases hs : (a.s != b.s)
 case true =>
  refine ZT 11 (.bool (a.s != b.s)) (.bool true) (by rw [hs]) ?_
  refine ZI true ?_
  exact ZX (.bool false) (by rw [sameB_no1 hs])
 refine ZT 11 (.bool (a.s != b.s)) (.bool false) (by rw [hs]) ?_
 by_cases hn : a.n = b.n
 case neg =>
  have hne : a.l ≠ b.l := fun e => hn (by rw [← hla, ← hlb, e])
  refine ZJ ((a.n : Int) != (b.n : Int)) true Zp ?_
  exact ZX (.bool false) (by rw [sameB_no2 hne])
 refine ZJ ((a.n : Int) != (b.n : Int)) false Zp ?_
 refine K0.loop (ι := {k : Nat // k ≤ a.n ∧ ∀ i, i < k → dg a.l i = dg b.l i}) 38 (fun i => ⟨[(2, .p 2 0), (3, .p 3 0), (5, .v (.int .i64 i.1))], [(2, [.v (.bool a.s), .v (.slice a.A a.n a.c)]), (3, [.v (.bool b.s), .v (.slice b.A b.n b.c)])]⟩) (fun _ _ => True) (fun i => a.n - i.1) (⟨0, by omega, by omega⟩) Zk (fun _ => by kernel_rfl) ⟨Zk, Zk, Zk⟩ (fun _ _ => trivial) ?_
 rintro ⟨k, hk, hkd⟩ g
 by_cases hlt : k < a.n
 ·
  refine ZR ?_
  refine ZJ (decide ((k : Int) < (a.n : Int))) true Zp ?_
  obtain ⟨ad, hA, hca⟩ := ha.inn.at_ (k := k) hlt
  obtain ⟨bd, hB, hcb⟩ := hb.inn.at_ (k := k) Zo
  refine ZB 3 (Kx 30 (.slice a.A a.n a.c) k) (.pointer (some (ad.add k))) (fun w1 hw h => by rw [hA]; exact Kh (elem := 218) Zk Zk hlt) ?_
  refine ZB 4 (Ln 218 (ad.add k)) (.int .u32 (dg a.l k)) (fun w1 hw h => K9 Zk (Mw hw hca)) ?_
  refine ZB 8 (Kx 30 (.slice b.A b.n b.c) k) (.pointer (some (bd.add k))) (fun w1 hw h => by rw [hB]; exact Kh (elem := 218) Zk Zk Zo) ?_
  refine ZB 9 (Ln 218 (bd.add k)) (.int .u32 (dg b.l k)) (fun w1 hw h => K9 Zk (Mw hw hcb)) ?_
  by_cases he : dg a.l k = dg b.l k
  ·
   refine ZJ ((((dg a.l k : Nat) : Int) != ((dg b.l k : Nat) : Int))) false (by rw [he]; simp) ?_
   refine K0.slot 5 (.int .i64 (IntKind.i64.wrap ((k : Int) + 1))) (.int .i64 ((k + 1 : Nat) : Int)) Zk (by rw [Kf hlt hnI]) ?_
   refine K0.next (⟨k + 1, by omega, lt_succ_all hkd he⟩) Zk (by show a.n - (k + 1) < a.n - k; omega) ⟨Zk, Zk, Zk⟩ (fun _ _ => trivial)
  ·
   refine ZJ ((((dg a.l k : Nat) : Int) != ((dg b.l k : Nat) : Int))) true Zp ?_
   refine K0.leave Zk ?_
   refine ZR ?_
   exact ZX (.bool false) (by rw [sameB_no2 fun e => he (by rw [e])])
 ·
  refine ZR ?_
  refine ZJ (decide ((k : Int) < (a.n : Int))) false Zp ?_
  refine K0.leave Zk ?_
  refine ZR ?_
  have hl : a.l = b.l := dg_ext Zo fun i hi => hkd i Zo
  exact ZX (.bool true) (by rw [sameB_yes hs hl])
theorem qsame_m {a b : SV} {x y : Int} {K1 K2 : Nat} {w : World} (ha : O1 a x K1 w) (hb : O1 b y K2 w) :
 Calls Tryz.prog 286 #[a.val, b.val] w (K5 w (fun _ : Unit => .bool (Ps a b)) fun _ _ => True) := by
 have hla := ha.inn.len
 have hlb := hb.inn.len
 have hnI := ha.inn.lenI
 refine K0.enter Tryz.func286 rfl ?_
 refine ZS 6 ?_
 cases hs : (a.s != b.s)
 case true =>
  refine ZT 12 (.bool (a.s != b.s)) (.bool true) (by rw [hs]) ?_
  refine ZI true ?_
  exact ZX (.bool false) (by rw [sameB_no1 hs])
 refine ZT 12 (.bool (a.s != b.s)) (.bool false) (by rw [hs]) ?_
 by_cases hn : a.n = b.n
 case neg =>
  have hne : a.l ≠ b.l := fun e => hn (by rw [← hla, ← hlb, e])
  refine ZJ ((a.n : Int) != (b.n : Int)) true Zp ?_
  exact ZX (.bool false) (by rw [sameB_no2 hne])
 refine ZJ ((a.n : Int) != (b.n : Int)) false Zp ?_
 refine K0.loop (ι := {k : Nat // k ≤ a.n ∧ ∀ i, i < k → dg a.l i = dg b.l i}) 37 (fun i => ⟨[(2, .p 2 0), (3, .p 3 0), (24, .v (.int .i64 i.1)), (22, .v (.slice a.A a.n a.c)), (23, .v (.int .i64 a.n))], [(2, [.v (.bool a.s), .v (.slice a.A a.n a.c)]), (3, [.v (.bool b.s), .v (.slice b.A b.n b.c)])]⟩) (fun _ _ => True) (fun i => a.n - i.1) (⟨0, by omega, by omega⟩) Zk (fun _ => by kernel_rfl) ⟨Zk, Zk, Zk⟩ (fun _ _ => trivial) ?_
 rintro ⟨k, hk, hkd⟩ g
 by_cases hlt : k < a.n
 ·
  refine ZR ?_
  refine ZJ (decide ((k : Int) < (a.n : Int))) true Zp ?_
  obtain ⟨ad, hA, hca⟩ := ha.inn.at_ (k := k) hlt
  obtain ⟨bd, hB, hcb⟩ := hb.inn.at_ (k := k) Zo
  refine ZA (Kx 30 (.slice a.A a.n a.c) k) (.pointer (some (ad.add k))) (fun w1 hw h => by rw [hA]; exact Kh (elem := 218) Zk Zk hlt) ?_
  refine ZA (Ln 218 (ad.add k)) (.int .u32 (dg a.l k)) (fun w1 hw h => K9 Zk (Mw hw hca)) ?_
  refine ZA (Kx 30 (.slice b.A b.n b.c) k) (.pointer (some (bd.add k))) (fun w1 hw h => by rw [hB]; exact Kh (elem := 218) Zk Zk Zo) ?_
  refine ZA (Ln 218 (bd.add k)) (.int .u32 (dg b.l k)) (fun w1 hw h => K9 Zk (Mw hw hcb)) ?_
  by_cases he : dg a.l k = dg b.l k
  ·
   refine ZJ ((((dg a.l k : Nat) : Int) != ((dg b.l k : Nat) : Int))) false (by rw [he]; simp) ?_
   refine K0.slot 24 (.int .i64 (IntKind.i64.wrap ((k : Int) + 1))) (.int .i64 ((k + 1 : Nat) : Int)) Zk (by rw [Kf hlt hnI]) ?_
   refine K0.next (⟨k + 1, by omega, lt_succ_all hkd he⟩) Zk (by show a.n - (k + 1) < a.n - k; omega) ⟨Zk, Zk, Zk⟩ (fun _ _ => trivial)
  ·
   refine ZJ ((((dg a.l k : Nat) : Int) != ((dg b.l k : Nat) : Int))) true Zp ?_
   refine K0.leave Zk ?_
   refine ZR ?_
   exact ZX (.bool false) (by rw [sameB_no2 fun e => he (by rw [e])])
 ·
  refine ZR ?_
  refine ZJ (decide ((k : Int) < (a.n : Int))) false Zp ?_
  refine K0.leave Zk ?_
  refine ZR ?_
  have hl : a.l = b.l := dg_ext Zo fun i hi => hkd i Zo
  exact ZX (.bool true) (by rw [sameB_yes hs hl])
theorem rsameInt_v {a b : SV} {x y : Int} {K1 K2 : Nat} {w : World} {B : Bool} (hs : Ps a b = B) (ha : O1 a x K1 w) (hb : O1 b y K2 w) :
 Calls Tryz.prog 201 #[a.val, b.val] w (K5 w (fun _ : Unit => .bool B) fun _ _ => True) := by subst hs; exact rsameInt_m ha hb
theorem qsame_v {a b : SV} {x y : Int} {K1 K2 : Nat} {w : World} {B : Bool} (hs : Ps a b = B) (ha : O1 a x K1 w) (hb : O1 b y K2 w) :
 Calls Tryz.prog 286 #[a.val, b.val] w (K5 w (fun _ : Unit => .bool B) fun _ _ => True) := by subst hs; exact qsame_m ha hb
section
variable {a b : RV} {p q : Rat} {K K1 K2 : Nat} {w : World}
theorem natAbs_den (q : Rat) : ((q.den : Int)).natAbs = q.den := by omega
def bitsQ (q : Rat) : Nat := max (bitsN q.num.natAbs) (bitsN q.den)
theorem if_max (a b : Nat) : (if ((b : Int) > (a : Int)) then (b : Int) else (a : Int)) = ((max a b : Nat) : Int) := by
 split <;> omega
theorem qbitLen_m (ha : IsQ a q K w) (hK : 2 ≤ K ∧ K ≤ 68719476736) :
 Calls Tryz.prog 98 #[a.val] w (K5 w (fun _ : Unit => .int .i64 (bitsQ q : Nat)) fun _ _ => True) := by
 refine K0.enter Tryz.func98 rfl ?_
 refine ZR ?_
 refine ZC (fun w1 hw h => Lq (ha.below hw) hK) fun x => ?_
 refine ZC (fun w1 hw h => ibitLen_m h.2.1.i Zo) fun u => ?_
 refine ZC (fun w1 hw h => ibitLen_m h.1.2.2.i Zo) fun u => ?_
 exact ZX (.int .i64 (if ((bitsN ((q.den : Int)).natAbs : Nat) : Int) > (bitsN q.num.natAbs : Nat) then ((bitsN ((q.den : Int)).natAbs : Nat) : Int) else (bitsN q.num.natAbs : Nat))) (by rw [natAbs_den, if_max]; rfl)
theorem sameB_norm {v z : SV} {x y : Int} {K K' : Nat} {w w' : World} (hv : O1 v x K w) (hz : R1 z y K' w') : Ps v z = (isn v.s v.l && decide (x = y)) := by
 obtain ⟨hz1, N, hs, _⟩ := hz
 have hx := hv.zi
 have hy := hz1.zi
 have hva := hv.abs
 have hza := hz1.abs
 unfold Ps isn
 by_cases e : x = y
 ·subst e
  have ev : val v.l = val z.l := by rw [← hva, ← hza]
  by_cases ht : trim v.l = v.l
  ·have hl : v.l = z.l := by
    have h1 := Kt hv.inn.dig
    rw [ht] at h1
    exact h1.unique N ev
   have hpos : decide (0 < v.l.length) = decide (0 < x.natAbs) := by
    have h1 := Kt hv.inn.dig
    rw [ht] at h1
    rw [← h1.len_pos, hva]
   rw [decide_eq_true ht, decide_eq_true hl, hpos]
   cases hvs : v.s
   ·have : ¬ x < 0 := by rw [← hx, hvs]; simp [II.zi, Go.Proofs.YtncodmhgfkailaaGreatDoor.zi]
    rw [decide_eq_true (by rw [hs, decide_eq_false this])]; simp
   ·rw [hs]
    have h2 : x = -(val v.l : Int) := by rw [← hx, hvs]; simp [Go.Proofs.YtncodmhgfkailaaGreatDoor.zi]
    by_cases hp : 0 < x.natAbs
    ·rw [decide_eq_true hp, decide_eq_true (show x < 0 by omega)]; simp
    ·rw [decide_eq_false hp, decide_eq_false (show ¬ x < 0 by omega)]; simp
  ·have hl : v.l ≠ z.l := fun e => ht (by rw [e]; exact N.trim)
   rw [decide_eq_false ht, decide_eq_false hl]; simp
 ·rw [decide_eq_false e]
  have : ¬ (v.s = z.s ∧ v.l = z.l) := fun ⟨h1, h2⟩ => e (by rw [← hx, ← hy, h1, h2])
  by_cases h1 : v.s = z.s
  ·rw [decide_eq_false (fun h2 => this ⟨h1, h2⟩)]; simp
  ·rw [decide_eq_false h1]; simp
def isnQ (r : RV) (x y : Int) : Bool := decide (y ≠ 0) && (isn r.a.s r.a.l && decide (x = (Rat.divInt x y).num)) && (isn r.b.s r.b.l && decide (y = (Rat.divInt x y).den))
theorem qisn_m {x y : Int} (hx : O1 a.a x K w) (hy : O1 a.b y K w) (hK : 2 ≤ K ∧ K ≤ 68719476736) :
 Calls Tryz.prog 245 #[a.val] w (K5 w (fun _ : Unit => .bool (isnQ a x y)) fun _ _ => True) := by
 have ha : IsQ a (Rat.divInt x y) K w := ⟨x, y, hx, hy, rfl⟩
 by_cases h0 : y = 0
 ·
  refine K0.enter Tryz.func245 rfl ?_
  refine ZR ?_
  refine ZC (fun w1 hw h => Lq (ha.below hw) hK) fun z => ?_
  refine ZD 4 (fun w1 hw h => isign_m (hy.below hw) Zo) fun u => ?_
  refine ZT 9 (.bool (Ny y != 0)) (.bool false) (by show Value.bool (!(Ny y == 0)) = _; rw [Pr, decide_eq_true h0]; rfl) ?_
  exact ZX (.bool false) (by unfold isnQ; rw [decide_eq_false (by simpa using h0)]; rfl)
 ·
  refine K0.enter Tryz.func245 rfl ?_
  refine ZR ?_
  refine ZC (fun w1 hw h => Lq (ha.below hw) hK) fun z => ?_
  refine ZD 4 (fun w1 hw h => isign_m (hy.below hw) Zo) fun u => ?_
  refine ZT 9 (.bool (Ny y != 0)) (.bool true) (by show Value.bool (!(Ny y == 0)) = _; rw [Pr, decide_eq_false h0]; rfl) ?_
  have fin : ∀ {w1 : World}, Mh z (Rat.divInt x y) K w1 → isnQ a x y = (Ps a.a z.a && Ps a.b z.b) := fun {w1} hz => by
   rw [sameB_norm hx hz.1, sameB_norm hy hz.2]
   unfold isnQ
   rw [decide_eq_true h0, Bool.true_and]
  cases hs : Ps a.a z.a
  ·
   refine ZC (fun w1 hw h => qsame_v hs (hx.below hw) h.1.2.1.i) fun u => ?_
   refine ZV (.bool false) (fun w1 hw h => ⟨(), by rw [fin (h w1 (Nat.le_refl _) fun _ _ _ => rfl).1.1.2, hs]; rfl, hw, fun _ _ _ => trivial⟩)
  ·
   refine ZC (fun w1 hw h => qsame_v hs (hx.below hw) h.1.2.1.i) fun u => ?_
   refine ZC (fun w1 hw h => qsame_m (hy.below hw) h.1.1.2.2.i) fun u => ?_
   refine ZV (.bool (Ps a.b z.b)) (fun w1 hw h => ⟨(), by rw [fin (h w1 (Nat.le_refl _) fun _ _ _ => rfl).1.1.1.2, hs]; rfl, hw, fun _ _ _ => trivial⟩)
end
theorem sgn_lt0 (y : Int) : decide (Ny y < 0) = decide (y < 0) := by
 unfold Ny
 by_cases h : y < 0
 ·rw [if_pos h, decide_eq_true h]; rfl
 ·rw [if_neg h, decide_eq_false h]; split <;> rfl
theorem radd_e {a b : SV} {x y : Int} {K : Nat} {w : World} (ha : O1 a x K w) (hb : O1 b y K w) (hK : K + 1 ≤ 68719476736) : Calls Tryz.prog 240 #[a.val, b.val] w (K5 w SV.val fun v w => R1 v (x + y) (K + 1) w) :=
 (radd_m ha hb Zo).mono fun _ _ h => h.impG fun v u q => Q3 q (abs_add_lt ha.lt hb.lt)
theorem quoI_pos {x g : Int} (hg : 0 < g) : quoI x g = x / g := by
 unfold quoI
 rw [if_neg Zo, Int.fdiv_eq_ediv_of_nonneg _ Zo]
theorem red_num {x y : Int} (hy : y ≠ 0) : quoI (if y < 0 then -x else x) (Nat.gcd x.natAbs y.natAbs) = (Rat.divInt x y).num := by
 rw [quoI_pos (by have := gcd_nz (x := x) hy; omega), Rat.num_divInt]
 have hg : (y.gcd x : Nat) = Nat.gcd x.natAbs y.natAbs := Nat.gcd_comm _ _
 rw [hg]
 by_cases h : y < 0
 ·rw [if_pos h, Int.sign_eq_neg_one_of_neg h]; congr 1; omega
 ·rw [if_neg h, Int.sign_eq_one_of_pos Zo]; congr 1; omega
theorem red_den {x y : Int} (hy : y ≠ 0) : quoI (if y < 0 then -y else y) (Nat.gcd x.natAbs y.natAbs) = ((Rat.divInt x y).den : Int) := by
 rw [quoI_pos (by have := gcd_nz (x := x) hy; omega), ← den_parts hy, show (if y < 0 then -y else y) = (y.natAbs : Int) by split <;> omega]
 simp [zi]
section
variable {a b : RV} {p q : Rat} {K K1 K2 : Nat} {w : World}
theorem reduce_m {a b : SV} {x y : Int} (ha : O1 a x K w) (hb : O1 b y K w) (hy : y ≠ 0) (hK : K ≤ 1073741824) :
 Calls Tryz.prog 186 #[a.val, b.val] w (K5 w RV.val fun r w => Mh r (Rat.divInt x y) K w) := by
 have hbd := divInt_bd ha.lt hb.lt hy
 by_cases hs : y < 0
 ·
  refine K0.enter Tryz.func186 rfl ?_
  refine ZR ?_
  refine ZC (fun w1 hw h => rgcd_m (ha.d.below hw) (hb.d.below hw) hK) fun g => ?_
  refine ZC (fun w1 hw h => O3 (IsUN.sv false h.2) Zo) fun G => ?_
  refine ZC (fun w1 hw h => On (hb.below hw) Zo) fun u => ?_
  refine ZJ (decide (Ny y < 0)) true (by rw [sgn_lt0, decide_eq_true hs]) ?_
  refine ZC (fun w1 hw h => rneg_m (ha.below hw) Zo) fun n => ?_
  refine ZC (fun w1 hw h => rneg_m (hb.below hw) Zo) fun d => ?_
  refine ZC (fun w1 hw h => rdivmod_m h.1.2.i h.1.1.1.2.i Zo) fun s => ?_
  refine ZC (fun w1 hw h => rdivmod_m h.1.2.i h.1.1.1.1.2.i Zo) fun t => ?_
  refine ZV (RV.val ⟨s.1, t.1⟩) (fun w1 hw h => ⟨⟨s.1, t.1⟩, rfl, hw, fun w'' k1 k2 => ⟨Q3 ((h w'' k1 k2).1.2.1.cast (by rw [← red_num hy, if_pos hs]; rfl)) hbd.1, Q3 ((h w'' k1 k2).2.1.cast (by rw [← red_den hy, if_pos hs]; rfl)) hbd.2⟩⟩)
 ·
  refine K0.enter Tryz.func186 rfl ?_
  refine ZR ?_
  refine ZC (fun w1 hw h => rgcd_m (ha.d.below hw) (hb.d.below hw) hK) fun g => ?_
  refine ZC (fun w1 hw h => O3 (IsUN.sv false h.2) Zo) fun G => ?_
  refine ZC (fun w1 hw h => On (hb.below hw) Zo) fun u => ?_
  refine ZJ (decide (Ny y < 0)) false (by rw [sgn_lt0, decide_eq_false hs]) ?_
  refine ZC (fun w1 hw h => rdivmod_m (ha.below hw) h.1.2.i Zo) fun s => ?_
  refine ZC (fun w1 hw h => rdivmod_m (hb.below hw) h.1.1.2.i Zo) fun t => ?_
  refine ZV (RV.val ⟨s.1, t.1⟩) (fun w1 hw h => ⟨⟨s.1, t.1⟩, rfl, hw, fun w'' k1 k2 => ⟨Q3 ((h w'' k1 k2).1.2.1.cast (by rw [← red_num hy, if_neg hs]; rfl)) hbd.1, Q3 ((h w'' k1 k2).2.1.cast (by rw [← red_den hy, if_neg hs]; rfl)) hbd.2⟩⟩)
theorem rqfromInt_m (z : Int) (w : World) (h1 : -9223372036854775808 ≤ z) (h2 : z ≤ 9223372036854775807) : Calls Tryz.prog 59 #[.int .i64 z] w (K5 w RV.val fun r w => Mh r z 2 w) := by
 refine K0.enter Tryz.func59 rfl ?_
 refine ZR ?_
 refine ZC (fun w1 hw h => rfromInt_m z w1 h1 h2) fun x => ?_
 refine ZC (fun w1 hw h => rfromInt_m 1 w1 Zd Zd) fun y => ?_
 refine ZV (RV.val ⟨x, y⟩) (fun w1 hw h => ⟨⟨x, y⟩, rfl, hw, fun w'' k1 k2 => ⟨(h w'' k1 k2).1.2, (h w'' k1 k2).2⟩⟩)
theorem rqnew_m {a b : SV} {x y : Int} {K : Nat} {w : World} (ha : O1 a x K w) (hb : O1 b y K w) (hK : K ≤ 1073741824) :
 Calls Tryz.prog 288 #[a.val, b.val] w (K5 w (QEVal y) fun r w => IsQE r x y K w) := by
 by_cases hy : y = 0
 ·
  refine K0.enter Tryz.func288 rfl ?_
  refine ZR ?_
  refine ZC (fun w1 hw h => On (hb.below hw) Zo) fun u => ?_
  refine ZJ (Ny y == 0) true (by rw [Pr, decide_eq_true hy]) ?_
  refine ZV (.tuple #[RV0.val, .int .i64 9]) (fun w1 hw h => ⟨RV0, by unfold QEVal; rw [divEI_yes hy], hw, fun w'' k1 k2 => .zero hy⟩)
 ·
  refine K0.enter Tryz.func288 rfl ?_
  refine ZR ?_
  refine ZC (fun w1 hw h => On (hb.below hw) Zo) fun u => ?_
  refine ZJ (Ny y == 0) false (by rw [Pr, decide_eq_false hy]) ?_
  refine ZC (fun w1 hw h => reduce_m (ha.below hw) (hb.below hw) hy hK) fun r => ?_
  refine ZV (.tuple #[r.val, .int .i64 0]) (fun w1 hw h => ⟨r, by unfold QEVal; rw [divEI_no hy], hw, fun w'' k1 k2 => .of hy (h w'' k1 k2).2⟩)
theorem Le (ha : IsQ a q K w) (hK : 2 ≤ K ∧ K ≤ 1073741824) :
 Calls Tryz.prog 125 #[a.val] w (K5 w RV.val fun r w => Mh r q K w) := by
 obtain ⟨x, y, hx, hy, hq⟩ := ha
 by_cases h0 : y = 0
 ·have hq0 : q = 0 := by rw [hq, h0, divInt_zero']
  refine K0.enter Tryz.func125 rfl ?_
  refine ZR ?_
  refine ZC (fun w1 hw h => On (hy.below hw) Zo) fun u => ?_
  refine ZJ (Ny y == 0) true (by rw [Pr, decide_eq_true h0]) ?_
  refine ZC (fun w1 hw h => rqfromInt_m 0 w1 Zd Zd) fun z => ?_
  refine ZV (RV.val z) (fun w1 hw h => ⟨z, rfl, hw, fun w'' k1 k2 => by rw [hq0]; exact ⟨(h w'' k1 k2).2.1.mono hK.1, (h w'' k1 k2).2.2.mono hK.1⟩⟩)
 ·
  refine K0.enter Tryz.func125 rfl ?_
  refine ZR ?_
  refine ZC (fun w1 hw h => On (hy.below hw) Zo) fun u => ?_
  refine ZJ (Ny y == 0) false (by rw [Pr, decide_eq_false h0]) ?_
  refine ZC (fun w1 hw h => reduce_m (hx.below hw) (hy.below hw) h0 hK.2) fun r => ?_
  refine ZV (RV.val r) (fun w1 hw h => ⟨r, rfl, hw, fun w'' k1 k2 => by rw [hq]; exact (h w'' k1 k2).2⟩)
theorem rqcmp_m (ha : IsQ a p K1 w) (hb : IsQ b q K2 w) (hK : 2 ≤ K1 ∧ 2 ≤ K2 ∧ K1 + K2 ≤ 1073741824) :
 Calls Tryz.prog 57 #[a.val, b.val] w (K5 w (fun _ : Unit => .int .i64 (cmpQ p q)) fun _ _ => True) := by
 refine K0.enter Tryz.func57 rfl ?_
 refine ZR ?_
 refine ZC (fun w1 hw h => Le (ha.below hw) Zo) fun x => ?_
 refine ZC (fun w1 hw h => Le (hb.below hw) Zo) fun y => ?_
 refine ZC (fun w1 hw h => rmul_m h.1.2.1.i h.2.2.i Zo) fun u => ?_
 refine ZC (fun w1 hw h => rmul_m h.1.2.1.i h.1.1.2.2.i Zo) fun v => ?_
 refine ZC (fun w1 hw h => rcmp_m h.1.2.i h.2.i Zo) fun u => ?_
 exact ZX (.int .i64 (Ny (p.num * q.den - q.num * p.den))) (by rw [cmp_rat]; rfl)
theorem rqneg_m (ha : IsQ a p K1 w) (hK : 2 ≤ K1 ∧ K1 ≤ 1073741824) :
 Calls Tryz.prog 191 #[a.val] w (K5 w RV.val fun r w => Mh r (-p) K1 w) := by
 refine K0.enter Tryz.func191 rfl ?_
 refine ZR ?_
 refine ZC (fun w1 hw h => Le (ha.below hw) hK) fun x => ?_
 refine ZC (fun w1 hw h => rneg_m h.2.1.i Zo) fun u => ?_
 refine ZV (RV.val ⟨u, x.b⟩) (fun w1 hw h => ⟨⟨u, x.b⟩, rfl, hw, fun w'' k1 k2 => ⟨(h w'' k1 k2).2, (h w'' k1 k2).1.2.2⟩⟩)
theorem rqadd_m (ha : IsQ a p K1 w) (hb : IsQ b q K2 w) (hK : 2 ≤ K1 ∧ 2 ≤ K2 ∧ K1 + K2 ≤ 1073741820) :
 Calls Tryz.prog 190 #[a.val, b.val] w (K5 w RV.val fun r w => Mh r (p + q) (K1 + K2 + 1) w) := by
 refine K0.enter Tryz.func190 rfl ?_
 refine ZR ?_
 refine ZC (fun w1 hw h => Le (ha.below hw) Zo) fun x => ?_
 refine ZC (fun w1 hw h => Le (hb.below hw) Zo) fun y => ?_
 refine ZC (fun w1 hw h => rmul_m h.1.2.1.i h.2.2.i Zo) fun u => ?_
 refine ZC (fun w1 hw h => rmul_m h.1.2.1.i h.1.1.2.2.i Zo) fun v => ?_
 refine ZC (fun w1 hw h => radd_e h.1.2.i (h.2.i.mono (show K2 + K1 ≤ K1 + K2 by omega)) Zo) fun s => ?_
 refine ZC (fun w1 hw h => rmul_m h.1.1.1.1.2.2.i h.1.1.1.2.2.i Zo) fun d => ?_
 refine ZC (fun w1 hw h => reduce_m h.1.2.i (h.2.i.mono Zo) (den_mul_nz p q) Zo) fun r => ?_
 refine ZV (RV.val r) (fun w1 hw h => ⟨r, rfl, hw, fun w'' k1 k2 => (h w'' k1 k2).2.cast add_divInt⟩)
theorem sub_neg' (p q : Rat) : p + -q = p - q := by grind
theorem rqsub_m (ha : IsQ a p K1 w) (hb : IsQ b q K2 w) (hK : 2 ≤ K1 ∧ 2 ≤ K2 ∧ K1 + K2 ≤ 1073741820) :
 Calls Tryz.prog 128 #[a.val, b.val] w (K5 w RV.val fun r w => Mh r (p - q) (K1 + K2 + 1) w) := by
 refine K0.enter Tryz.func128 rfl ?_
 refine ZR ?_
 refine ZC (fun w1 hw h => rqneg_m (hb.below hw) Zo) fun n => ?_
 refine ZC (fun w1 hw h => rqadd_m (ha.below hw) h.2.q hK) fun r => ?_
 refine ZV (RV.val r) (fun w1 hw h => ⟨r, rfl, hw, fun w'' k1 k2 => (h w'' k1 k2).2.cast (sub_neg' p q)⟩)
theorem rqmul_m (ha : IsQ a p K1 w) (hb : IsQ b q K2 w) (hK : 2 ≤ K1 ∧ 2 ≤ K2 ∧ K1 + K2 ≤ 1073741820) :
 Calls Tryz.prog 129 #[a.val, b.val] w (K5 w RV.val fun r w => Mh r (p * q) (K1 + K2) w) := by
 refine K0.enter Tryz.func129 rfl ?_
 refine ZR ?_
 refine ZC (fun w1 hw h => Le (ha.below hw) Zo) fun x => ?_
 refine ZC (fun w1 hw h => Le (hb.below hw) Zo) fun y => ?_
 refine ZC (fun w1 hw h => rmul_m h.1.2.1.i h.2.1.i Zo) fun n => ?_
 refine ZC (fun w1 hw h => rmul_m h.1.1.2.2.i h.1.2.2.i Zo) fun d => ?_
 refine ZC (fun w1 hw h => reduce_m h.1.2.i h.2.i (den_mul_nz p q) Zo) fun r => ?_
 refine ZV (RV.val r) (fun w1 hw h => ⟨r, rfl, hw, fun w'' k1 k2 => (h w'' k1 k2).2.cast mul_divInt⟩)
theorem rqbitLen_m (ha : IsQ a q K w) (hK : 2 ≤ K ∧ K ≤ 1073741824) :
 Calls Tryz.prog 117 #[a.val] w (K5 w (fun _ : Unit => .int .i64 (bitsQ q : Nat)) fun _ _ => True) := by
 refine K0.enter Tryz.func117 rfl ?_
 refine ZR ?_
 refine ZC (fun w1 hw h => Le (ha.below hw) hK) fun x => ?_
 refine ZC (fun w1 hw h => rbitLen_m h.2.1.i Zo) fun u => ?_
 refine ZC (fun w1 hw h => rbitLen_m h.1.2.2.i Zo) fun u => ?_
 exact ZX (.int .i64 (if ((bitsN ((q.den : Int)).natAbs : Nat) : Int) > (bitsN q.num.natAbs : Nat) then ((bitsN ((q.den : Int)).natAbs : Nat) : Int) else (bitsN q.num.natAbs : Nat))) (by rw [natAbs_den, if_max]; rfl)
def sameQB (a b : RV) : Bool := Ps a.a b.a && Ps a.b b.b
theorem rsame_m {x y z t : Int} (hx : O1 a.a x K w) (hy : O1 a.b y K w) (hz : O1 b.a z K1 w) (ht : O1 b.b t K1 w) :
 Calls Tryz.prog 155 #[a.val, b.val] w (K5 w (fun _ : Unit => .bool (sameQB a b)) fun _ _ => True) := by
 cases hs : Ps a.a b.a
 ·
  refine K0.enter Tryz.func155 rfl ?_
  refine ZR ?_
  refine ZC (fun w1 hw h => rsameInt_v hs (hx.below hw) (hz.below hw)) fun u => ?_
  exact ZX (.bool false) (by unfold sameQB; rw [hs]; rfl)
 ·
  refine K0.enter Tryz.func155 rfl ?_
  refine ZR ?_
  refine ZC (fun w1 hw h => rsameInt_v hs (hx.below hw) (hz.below hw)) fun u => ?_
  refine ZC (fun w1 hw h => rsameInt_m (hy.below hw) (ht.below hw)) fun u => ?_
  exact ZX (.bool (Ps a.b b.b)) (by unfold sameQB; rw [hs]; rfl)
theorem rsame_v {x y z t : Int} {B : Bool} (hB : sameQB a b = B) (hx : O1 a.a x K w) (hy : O1 a.b y K w) (hz : O1 b.a z K1 w) (ht : O1 b.b t K1 w) :
 Calls Tryz.prog 155 #[a.val, b.val] w (K5 w (fun _ : Unit => .bool B) fun _ _ => True) := by subst hB; exact rsame_m hx hy hz ht
end
theorem isn_n2 {v : SV} {x : Int} {K : Nat} {w : World} (h : R1 v x K w) : isn v.s v.l = true := by
 obtain ⟨h1, N, hs, _⟩ := h
 have hva := h1.abs
 unfold isn
 rw [decide_eq_true N.trim, ← N.len_pos, ← hva]
 cases hv : v.s
 ·rfl
 ·rw [hv] at hs
  have : x < 0 := by simpa using hs.symm
  rw [decide_eq_true Zo]; rfl
end Go.Proofs.YtncodmhgfkailaaGreatDoor
