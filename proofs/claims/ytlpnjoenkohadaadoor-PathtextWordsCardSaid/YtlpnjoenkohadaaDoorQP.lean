/-
  Fractions: the program's functions and the reference's.
-/
import Derived.Test.YtlpnjoenkohadaaDoorAn
import Derived.Test.YtlpnjoenkohadaaDoorIv
import Derived.Test.YtlpnjoenkohadaaDoorJe
namespace Go.Proofs.YtlpnjoenkohadaaDoor
set_option linter.unusedVariables false
set_option linter.unusedSimpArgs false
open Go.RowKit

/-- A slice with a sign. -/
structure SV where
  s : Bool
  A : Option Addr
  n : Nat
  c : Nat
  l : List Nat
@[reducible] def SV.val (x : SV) : Value := .agg #[.bool x.s, .slice x.A x.n x.c]
/-- The value is the integer x, of at most K digits. -/
def IsI (v : SV) (x : Int) (K : Nat) (w : World) : Prop := II w v.s v.A v.n v.c v.l x K
/-- .. normalized. -/
def IsN (v : SV) (x : Int) (K : Nat) (w : World) : Prop := IsI v x K w ∧ Norm v.l ∧ v.s = decide (x < 0) ∧ Own w 0 v.A v.n v.c v.l
theorem IsN.i {v : SV} {x : Int} {K : Nat} {w : World} (h : IsN v x K w) : IsI v x K w := h.1
theorem IsI.below {v : SV} {x : Int} {K : Nat} {w w' : World} (h : IsI v x K w) (hb : Below w.heap.size w w') : IsI v x K w' := II.below h hb
theorem IsI.mono {v : SV} {x : Int} {K K' : Nat} {w : World} (h : IsI v x K w) (hK : K ≤ K') : IsI v x K' w := ⟨h.inn, h.zi, Nat.le_trans h.le hK⟩
theorem IsN.mono {v : SV} {x : Int} {K K' : Nat} {w : World} (h : IsN v x K w) (hK : K ≤ K') : IsN v x K' w := ⟨h.1.mono hK, h.2⟩
theorem IsN.cast {v : SV} {x y : Int} {K : Nat} {w : World} (h : IsN v x K w) (e : x = y) : IsN v y K w := by rw [← e]; exact h
theorem Own.agree {w w' : World} {B : Nat} {A : Option Addr} {n c : Nat} {l : List Nat} (h : Own w B A n c l) (h1 : w.heap.size ≤ w'.heap.size) (h2 : ∀ b, B ≤ b → b < w.heap.size → w'.heap[b]? = w.heap[b]?) : Own w' B A n c l := h.mid h1 h2
theorem RetII.post {w : World} {x : Int} {K : Nat} {e : Ending} {w' : World} (h : RetII w x K e w') : CallPost w SV.val (fun v w => IsN v x K w) e w' := by
  obtain ⟨A, n, c, l, rfl, N, o, i, hb⟩ := h
  exact ⟨⟨decide (x < 0), A, n, c, l⟩, rfl, hb, fun w'' h1 h2 => ⟨⟨(o.mid h1 h2).toIn, i.2, i.3⟩, N, rfl, (o.mid h1 h2).base (Nat.zero_le _)⟩⟩
theorem RetV.post {w : World} {v : Value} {e : Ending} {w' : World} (h : RetV w v e w') : CallPost w (fun _ : Unit => v) (fun _ _ => True) e w' := ⟨(), h.1, h.2, fun _ _ _ => trivial⟩
/-- The quotient, the remainder, the error. -/
def DVal (y : Int) (q : SV × SV) : Value := .tuple #[q.1.val, q.2.val, .int .i64 (divEI y)]
theorem RetDII.post {w : World} {x y : Int} {K1 K2 : Nat} {e : Ending} {w' : World} (h : RetDII w x y K1 K2 e w') : CallPost w (DVal y) (fun q w => IsN q.1 (quoI x y) (K1 + 1) w ∧ IsN q.2 (remI x y) K2 w) e w' := by
  obtain ⟨A1, n1, c1, l1, A2, n2, c2, l2, rfl, N1, o1, i1, N2, o2, i2, hb⟩ := h
  exact ⟨(⟨decide (quoI x y < 0), A1, n1, c1, l1⟩, ⟨decide (remI x y < 0), A2, n2, c2, l2⟩), rfl, hb, fun w'' h1 h2 => ⟨⟨⟨(o1.mid h1 h2).toIn, i1.2, i1.3⟩, N1, rfl, (o1.mid h1 h2).base (Nat.zero_le _)⟩, ⟨⟨(o2.mid h1 h2).toIn, i2.2, i2.3⟩, N2, rfl, (o2.mid h1 h2).base (Nat.zero_le _)⟩⟩⟩
/-- The contract in the machine's words. -/
def MRet {X : Type} (P : Program) (f : FuncId) (args : Array Value) (w : World) (val : X → Value) (G : X → World → Prop) : Prop := Calls P f args w (CallPost w val G)

section
variable {a b : SV} {x y : Int} {K1 K2 : Nat} {w : World}
theorem inew_m (ha : IsI a x K1 w) (hK : K1 ≤ 68719476736) : Calls Tryd.prog 48 #[.bool a.s, .slice a.A a.n a.c] w (CallPost w SV.val fun v w => IsN v x K1 w) :=
  (inew_v w ha (Nat.le_refl _) hK).mono fun _ _ h => h.post
theorem isign_m (ha : IsI a x K1 w) (hK : K1 ≤ 68719476736) : Calls Tryd.prog 46 #[a.val] w (CallPost w (fun _ : Unit => .int .i64 (sgn x)) fun _ _ => True) :=
  (isign_v w ha hK).mono fun _ _ h => h.post
theorem rnew_m (ha : IsI a x K1 w) (hK : K1 ≤ 68719476736) : Calls Tryd.prog 54 #[.bool a.s, .slice a.A a.n a.c] w (CallPost w SV.val fun v w => IsN v x K1 w) :=
  (rnew_v w ha (Nat.le_refl _) hK).mono fun _ _ h => h.post
theorem rsign_m (ha : IsI a x K1 w) (hK : K1 ≤ 68719476736) : Calls Tryd.prog 53 #[a.val] w (CallPost w (fun _ : Unit => .int .i64 (sgn x)) fun _ _ => True) :=
  (rsign_v w ha hK).mono fun _ _ h => h.post
theorem fromInt_m (z : Int) (w : World) (h1 : -9223372036854775808 ≤ z) (h2 : z ≤ 9223372036854775807) : Calls Tryd.prog 32 #[.int .i64 z] w (CallPost w SV.val fun v w => IsN v z 2 w) :=
  (fromInt_v z w h1 h2 (Nat.le_refl _)).mono fun _ _ h => h.post
theorem rfromInt_m (z : Int) (w : World) (h1 : -9223372036854775808 ≤ z) (h2 : z ≤ 9223372036854775807) : Calls Tryd.prog 37 #[.int .i64 z] w (CallPost w SV.val fun v w => IsN v z 2 w) :=
  (rfromInt_v z w h1 h2 (Nat.le_refl _)).mono fun _ _ h => h.post
end

/-- A fraction's value. -/
structure RV where
  a : SV
  b : SV
@[reducible] def RV.val (r : RV) : Value := .agg #[.bool r.a.s, .slice r.a.A r.a.n r.a.c, .bool r.b.s, .slice r.b.A r.b.n r.b.c]
def IsQ (r : RV) (q : Rat) (K : Nat) (w : World) : Prop := ∃ x y : Int, IsI r.a x K w ∧ IsI r.b y K w ∧ q = Rat.divInt x y
def IsQN (r : RV) (q : Rat) (K : Nat) (w : World) : Prop := IsN r.a q.num K w ∧ IsN r.b q.den K w
/-- A slice of digits. -/
structure DV where
  A : Option Addr
  n : Nat
  c : Nat
  l : List Nat
@[reducible] def DV.val (v : DV) : Value := .slice v.A v.n v.c
def IsU (v : DV) (k : Nat) (K : Nat) (w : World) : Prop := In w v.A v.n v.c v.l ∧ val v.l = k ∧ v.n ≤ K
def IsUN (v : DV) (k : Nat) (K : Nat) (w : World) : Prop := IsU v k K w ∧ Norm v.l
def SV.d (v : SV) : DV := ⟨v.A, v.n, v.c, v.l⟩
theorem IsI.d {v : SV} {x : Int} {K : Nat} {w : World} (h : IsI v x K w) : IsU v.d x.natAbs K w := ⟨h.inn, h.abs.symm, h.le⟩
theorem IsU.below {v : DV} {x : Nat} {K : Nat} {w w' : World} (h : IsU v x K w) (hb : Below w.heap.size w w') : IsU v x K w' := ⟨h.1.below hb, h.2⟩
theorem IsU.lt {v : DV} {x : Nat} {K : Nat} {w : World} (h : IsU v x K w) : x < pw K := by
  rw [← h.2.1]; exact val_lt_of h.1.dig (by rw [h.1.len]; exact h.2.2)
theorem IsI.lt {v : SV} {x : Int} {K : Nat} {w : World} (h : IsI v x K w) : x.natAbs < pw K := II.lt h
theorem isN_of {v : SV} {x : Int} {K K' : Nat} {w : World} (h : IsN v x K w) (hK : x.natAbs < pw K') : IsN v x K' w := ⟨⟨h.1.inn, h.1.zi, k_len h.2.1 h.1.abs.symm h.1.inn hK⟩, h.2⟩
theorem RetN.post {w : World} {k K : Nat} {e : Ending} {w' : World} (h : RetN w k e w') (hK : k < pw K) : CallPost w DV.val (fun v w => IsUN v k K w) e w' := by
  obtain ⟨A, n, c, l, rfl, N, v, o, hb⟩ := h
  refine ⟨⟨A, n, c, l⟩, rfl, hb, fun w'' h1 h2 => ⟨⟨(o.mid h1 h2).toIn, v, ?_⟩, N⟩⟩
  have := N.length_le (k := K) (by rw [v]; exact hK)
  rw [o.len] at this
  exact this
def DmVal (y : Nat) (q : DV × DV) : Value := .tuple #[q.1.val, q.2.val, .int .i64 (divE y)]
theorem run_load1 {P : Program} {t : TypeId} {p : Addr} {v : Value} {w : World} (ht : isRowT P t = some false) (hc : w.cell? p = some v) :
    (Instr.loadAt t (.pointer (some p)) >>= fun v => (pure (.value v) : Sem Next)).run P w = .ok (.value v) w := by
  have hagg : (isAgg t).run P w = .ok false w := by
    unfold isRowT at ht
    split at ht
    · cases ht
    · cases ht
    · rename_i d hn1 hn2 hd
      unfold isAgg
      rw [Sem.run_bind, run_underlying hd w]
      cases d <;> first | rfl | (exfalso; first | exact hn1 _ rfl | exact hn2 _ _ rfl) | (exfalso; first | exact hn1 _ hd | exact hn2 _ _ hd)
    · cases ht
  have hl : (load p).run P w = .ok v w := by simp [run_load, hc]
  simp only [Sem.run_bind, Instr.loadAt, Instr.sureAddr, Sem.run_pure, Result.andThen_ok, loadVar, hagg, hl, Bool.false_eq_true, if_false]
theorem cell_one {β : Nat} {w : World} {v : Value} {ty : TypeId} (h : w.heap[β]? = some (.cells #[v] ty (0, 0))) : w.cell? ⟨β, 0, none⟩ = some v := by simp [World.cell?, h]

theorem num_parts {x y : Int} (hy : y ≠ 0) : zi (decide (sgn x * sgn y < 0)) (x.natAbs / Nat.gcd x.natAbs y.natAbs) = (Rat.divInt x y).num := by
  rw [Rat.num_divInt]
  have hg : (y.gcd x : Nat) = Nat.gcd x.natAbs y.natAbs := Nat.gcd_comm _ _
  rw [hg]
  have hd : Nat.gcd x.natAbs y.natAbs ∣ x.natAbs := Nat.gcd_dvd_left _ _
  generalize Nat.gcd x.natAbs y.natAbs = g at hd ⊢
  have hd' : (g : Int) ∣ (x.natAbs : Int) := Int.natCast_dvd_natCast.2 hd
  have hneg : (-(x.natAbs : Int)) / (g : Int) = -((x.natAbs : Int) / g) := Int.neg_ediv_of_dvd hd'
  rcases Int.lt_trichotomy x 0 with h | h | h
  · have e : (x.natAbs : Int) = -x := by omega
    have s1 : sgn x = -1 := by simp [sgn, h]
    rcases Int.lt_trichotomy y 0 with k | k | k
    · have s2 : sgn y = -1 := by simp [sgn, k]
      rw [s1, s2, Int.sign_eq_neg_one_of_neg k, show -1 * x = (x.natAbs : Int) by omega]
      simp [zi]
    · exact absurd k hy
    · have s2 : sgn y = 1 := by unfold sgn; rw [if_neg (by omega), if_neg (by omega)]
      rw [s1, s2, Int.sign_eq_one_of_pos k, show 1 * x = -(x.natAbs : Int) by omega, hneg]
      simp [zi]
  · subst h
    simp [zi, sgn]
  · have e : (x.natAbs : Int) = x := by omega
    have s1 : sgn x = 1 := by unfold sgn; rw [if_neg (by omega), if_neg (by omega)]
    rcases Int.lt_trichotomy y 0 with k | k | k
    · have s2 : sgn y = -1 := by simp [sgn, k]
      rw [s1, s2, Int.sign_eq_neg_one_of_neg k, show -1 * x = -(x.natAbs : Int) by omega, hneg]
      simp [zi]
    · exact absurd k hy
    · have s2 : sgn y = 1 := by unfold sgn; rw [if_neg (by omega), if_neg (by omega)]
      rw [s1, s2, Int.sign_eq_one_of_pos k, show 1 * x = (x.natAbs : Int) by omega]
      simp [zi]
theorem den_parts {x y : Int} (hy : y ≠ 0) : zi false (y.natAbs / Nat.gcd x.natAbs y.natAbs) = ((Rat.divInt x y).den : Int) := by
  rw [Rat.den_divInt, if_neg hy]
  have hg : (y.gcd x : Nat) = Nat.gcd x.natAbs y.natAbs := Nat.gcd_comm _ _
  rw [hg]
  simp [zi]
theorem add_divInt {a b : Rat} : Rat.divInt (a.num * b.den + b.num * a.den) (a.den * b.den) = a + b := by
  have h := Rat.divInt_add_divInt a.num b.num (d₁ := a.den) (d₂ := b.den) (by have := a.den_nz; omega) (by have := b.den_nz; omega)
  rw [Rat.num_divInt_den, Rat.num_divInt_den] at h
  exact h.symm
theorem sub_divInt {a b : Rat} : Rat.divInt (a.num * b.den - b.num * a.den) (a.den * b.den) = a - b := by
  have h := Rat.divInt_sub_divInt a.num b.num (d₁ := a.den) (d₂ := b.den) (by have := a.den_nz; omega) (by have := b.den_nz; omega)
  rw [Rat.num_divInt_den, Rat.num_divInt_den] at h
  exact h.symm
theorem mul_divInt {a b : Rat} : Rat.divInt (a.num * b.num) (a.den * b.den) = a * b := by
  have h := Rat.divInt_mul_divInt a.num b.num (d₁ := a.den) (d₂ := b.den)
  rw [Rat.num_divInt_den, Rat.num_divInt_den] at h
  exact h.symm
theorem quo_divInt {a b : Rat} : Rat.divInt (a.num * b.den) (a.den * b.num) = a / b := by
  rw [Rat.div_def]
  have h := Rat.divInt_mul_divInt a.num b.den (d₁ := a.den) (d₂ := b.num)
  rw [← h, Rat.num_divInt_den, ← Rat.inv_divInt, Rat.num_divInt_den]
theorem den_mul_nz (a b : Rat) : (a.den : Int) * b.den ≠ 0 := Int.mul_ne_zero (by have := a.den_nz; omega) (by have := b.den_nz; omega)
theorem half_divInt {a b : Rat} : Rat.divInt (a.num * b.den + b.num * a.den) (a.den * b.den + a.den * b.den) = (a + b) / 2 := by
  have h := Rat.divInt_mul_divInt (a.num * b.den + b.num * a.den) 1 (d₁ := a.den * b.den) (d₂ := 2)
  rw [add_divInt] at h
  rw [show (a.den : Int) * b.den + a.den * b.den = a.den * b.den * 2 by omega, ← Int.mul_one (a.num * b.den + b.num * a.den), ← h, Rat.div_def, Rat.inv_def]
  rfl
theorem cmp_rat {a b : Rat} : sgn (a.num * b.den - b.num * a.den) = if a < b then -1 else if a = b then 0 else 1 := by
  unfold sgn
  have h1 := Rat.lt_iff a b
  have h2 := Rat.lt_iff b a
  by_cases h : a < b
  · rw [if_pos h, if_pos (by have := h1.1 h; omega)]
  · rw [if_neg h, if_neg (fun k => h (h1.2 (by omega)))]
    by_cases e : a = b
    · rw [if_pos e, if_pos (by rw [e]; omega)]
    · rw [if_neg e, if_neg]
      intro k
      have := Rat.le_antisymm (Rat.not_lt.1 fun q => by have := h2.1 q; omega) (Rat.not_lt.1 h)
      exact e this

theorem rat_nat (n : Nat) : ((n : Int)).natAbs = n := by omega
theorem divInt_bd {x y : Int} {K : Nat} (hx : x.natAbs < pw K) (hy : y.natAbs < pw K) (h0 : y ≠ 0) : (Rat.divInt x y).num.natAbs < pw K ∧ ((Rat.divInt x y).den : Int).natAbs < pw K := by
  rw [← num_parts h0, ← den_parts h0, zi_abs, zi_abs]
  exact ⟨Nat.lt_of_le_of_lt (Nat.div_le_self _ _) hx, Nat.lt_of_le_of_lt (Nat.div_le_self _ _) hy⟩
theorem IsUN.sv {v : DV} {k K : Nat} {w : World} (s : Bool) (h : IsUN v k K w) : IsI ⟨s, v.A, v.n, v.c, v.l⟩ (zi s k) K w := ⟨h.1.1, by rw [← h.1.2.1], h.1.2.2⟩
theorem IsN.cast' {v : SV} {x y : Int} {K : Nat} {w : World} (h : IsN v x K w) (e : x = y) : IsN v y K w := by rw [← e]; exact h
theorem gcd_nz {x y : Int} (hy : y ≠ 0) : Nat.gcd x.natAbs y.natAbs ≠ 0 := fun e => by
  have := (Nat.gcd_eq_zero_iff.1 e).2; omega

theorem cell_box {g : Nat} {w : World} {v : Value} (h : ∃ ty, w.heap[g]? = some (.cells #[v] ty (0, 0))) : w.cell? ⟨g, 0, none⟩ = some v := by
  obtain ⟨ty, h⟩ := h
  exact cell_one h
theorem sgn_is (x : Int) : sgn x = -1 ∨ sgn x = 0 ∨ sgn x = 1 := by unfold sgn; split <;> (try split) <;> simp
theorem wrap_sgn (x y : Int) : IntKind.i64.wrap (sgn x * sgn y) = sgn x * sgn y := by
  refine IntWalk.i64_in _ ?_
  rcases sgn_is x with e | e | e <;> rcases sgn_is y with k | k | k <;> rw [e, k] <;> decide

/-- The zero struct. -/
def SV0 : SV := ⟨false, none, 0, 0, []⟩
def RV0 : RV := ⟨SV0, SV0⟩
def IsQE (r : RV) (x y : Int) (K : Nat) (w : World) : Prop := if y = 0 then r = RV0 else IsQN r (Rat.divInt x y) K w
theorem IsQE.zero {x y : Int} {K : Nat} {w : World} (h : y = 0) : IsQE RV0 x y K w := by unfold IsQE; rw [if_pos h]
theorem IsQE.of {r : RV} {x y : Int} {K : Nat} {w : World} (h : y ≠ 0) (hr : IsQN r (Rat.divInt x y) K w) : IsQE r x y K w := by unfold IsQE; rw [if_neg h]; exact hr
theorem IsQE.n {r : RV} {x y : Int} {K : Nat} {w : World} (h : IsQE r x y K w) (hy : y ≠ 0) : IsQN r (Rat.divInt x y) K w := by unfold IsQE at h; rw [if_neg hy] at h; exact h
def QEVal (y : Int) (r : RV) : Value := .tuple #[r.val, .int .i64 (divEI y)]
theorem sgn_zero (y : Int) : (sgn y == 0) = decide (y = 0) := by
  unfold sgn
  by_cases h : y < 0
  · rw [if_pos h, decide_eq_false (by omega)]; rfl
  · rw [if_neg h]
    by_cases e : y = 0
    · rw [if_pos e, decide_eq_true e]; rfl
    · rw [if_neg e, decide_eq_false e]; rfl
theorem divEI_no {y : Int} (h : y ≠ 0) : divEI y = 0 := if_neg h
theorem divEI_yes {y : Int} (h : y = 0) : divEI y = 9 := if_pos h

theorem divInt_zero' (x : Int) : Rat.divInt x 0 = 0 := Rat.divInt_zero x
theorem IsQN.q {r : RV} {q : Rat} {K : Nat} {w : World} (h : IsQN r q K w) : IsQ r q K w := ⟨q.num, q.den, h.1.1, h.2.1, (Rat.num_divInt_den q).symm⟩
theorem IsQ.below {r : RV} {q : Rat} {K : Nat} {w w' : World} (h : IsQ r q K w) (hb : Below w.heap.size w w') : IsQ r q K w' := by
  obtain ⟨x, y, h1, h2, h3⟩ := h
  exact ⟨x, y, h1.below hb, h2.below hb, h3⟩
theorem IsQ.mono {r : RV} {q : Rat} {K K' : Nat} {w : World} (h : IsQ r q K w) (hK : K ≤ K') : IsQ r q K' w := by
  obtain ⟨x, y, h1, h2, h3⟩ := h
  exact ⟨x, y, h1.mono hK, h2.mono hK, h3⟩
theorem IsQN.mono {r : RV} {q : Rat} {K K' : Nat} {w : World} (h : IsQN r q K w) (hK : K ≤ K') : IsQN r q K' w := ⟨h.1.mono hK, h.2.mono hK⟩
theorem IsQN.cast {r : RV} {p q : Rat} {K : Nat} {w : World} (h : IsQN r p K w) (e : p = q) : IsQN r q K w := by rw [← e]; exact h
def cmpQ (p q : Rat) : Int := if p < q then -1 else if p = q then 0 else 1

section
variable {a b : RV} {p q : Rat} {K1 K2 : Nat} {w : World}
def CrossVal (t : SV × SV × SV) : Value := .tuple #[t.1.val, t.2.1.val, t.2.2.val]
/-- Division: by zero the zero struct and the error. -/
def IsQuo (r : RV) (p q : Rat) (K : Nat) (w : World) : Prop := if q = 0 then r = RV0 else IsQN r (p / q) K w
def QuoVal (q : Rat) (r : RV) : Value := .tuple #[r.val, .int .i64 (if q = 0 then 9 else 0)]
theorem den_num_zero (p q : Rat) : (p.den : Int) * q.num = 0 ↔ q = 0 := by
  have := p.den_nz
  constructor
  · intro h
    rcases Int.mul_eq_zero.1 h with h | h
    · omega
    · exact Rat.num_eq_zero.1 h
  · intro h; rw [h]; simp
theorem quo_post {r : RV} {p q : Rat} {K : Nat} {w : World} (h : IsQE r (p.num * q.den) (p.den * q.num) K w) : IsQuo r p q K w := by
  unfold IsQuo
  by_cases e : q = 0
  · rw [if_pos e]
    unfold IsQE at h
    rw [if_pos ((den_num_zero p q).2 e)] at h
    exact h
  · rw [if_neg e]
    exact (h.n fun k => e ((den_num_zero p q).1 k)).cast quo_divInt
end

def idxS (t : TypeId) (x : Value) (k : Int) : Sem Next := Instr.indexAt t x (.int .i64 k) >>= fun v => pure (.value v)
def ldS (t : TypeId) (p : Addr) : Sem Next := Instr.loadAt t (.pointer (some p)) >>= fun v => pure (.value v)
theorem run_idxS {P : Program} {t elem : TypeId} {ad : Addr} {n c k : Nat} {w : World} (hu : P.underlying t = some (.slice elem)) (hs : sizeT P elem = some 1) (hk : k < n) :
    (idxS t (.slice (some ad) n c) k).run P w = .ok (.value (.pointer (some (ad.add k)))) w := by
  have hb : 0 ≤ (k : Int) ∧ (k : Int) < (n : Int) := by omega
  simp only [idxS, Instr.indexAt, asIntOf, Sem.run_bind, Sem.run_pure, Result.andThen_ok, run_underlying hu, run_sizeT hs, if_pos hb, Int.toNat_natCast, Nat.mul_one]
theorem run_ldS {P : Program} {t : TypeId} {p : Addr} {v : Value} {w : World} (ht : isRowT P t = some false) (hc : w.cell? p = some v) : (ldS t p).run P w = .ok (.value v) w := run_load1 ht hc

def sameB (a b : SV) : Bool := decide (a.s = b.s) && decide (a.l = b.l)
theorem sameB_no1 {a b : SV} (h : (a.s != b.s) = true) : sameB a b = false := by
  unfold sameB; rw [decide_eq_false (by simpa using h)]; rfl
theorem sameB_no2 {a b : SV} (h : a.l ≠ b.l) : sameB a b = false := by
  unfold sameB; rw [decide_eq_false h, Bool.and_false]
theorem sameB_yes {a b : SV} (h : (a.s != b.s) = false) (h2 : a.l = b.l) : sameB a b = true := by
  unfold sameB; rw [decide_eq_true (by simpa using h), decide_eq_true h2]; rfl
theorem lt_succ_all {l m : List Nat} {k : Nat} (h : ∀ i, i < k → dg l i = dg m i) (he : dg l k = dg m k) : ∀ i, i < k + 1 → dg l i = dg m i := by
  intro i hi
  rcases Nat.lt_or_ge i k with h1 | h1
  · exact h i h1
  · obtain rfl : i = k := by omega
    exact he
theorem dg_ext {l m : List Nat} (h : l.length = m.length) (hd : ∀ i, i < l.length → dg l i = dg m i) : l = m := by
  refine List.ext_getElem h fun i h1 h2 => ?_
  have := hd i h1
  unfold dg at this
  simpa [h1, h2] using this
theorem wrap_succ {k n : Nat} (h : k < n) (hn : n ≤ 9223372036854775807) : IntKind.i64.wrap ((k : Int) + 1) = ((k + 1 : Nat) : Int) := by
  rw [IntWalk.i64_in _ (by omega)]; omega

section
variable {a b : RV} {p q : Rat} {K K1 K2 : Nat} {w : World}
theorem quoI_floor (q : Rat) : quoI q.num q.den = q.floor := by
  have h := q.den_nz
  unfold quoI
  rw [if_neg (by omega), Rat.floor_def, Int.fdiv_eq_ediv_of_nonneg _ (by omega)]
theorem natAbs_den (q : Rat) : ((q.den : Int)).natAbs = q.den := by omega
def RndVal (y : Int) (v : SV) : Value := .tuple #[v.val, .int .i64 (divEI y)]
theorem RetRII.post {w : World} {x y : Int} {K : Nat} {e : Ending} {w' : World} (h : RetRII w x y K e w') : CallPost w (RndVal y) (fun v w => IsN v (rndI x y) (K + 1) w) e w' := by
  obtain ⟨A, n, c, l, rfl, N, o, i, hb⟩ := h
  exact ⟨⟨decide (rndI x y < 0), A, n, c, l⟩, rfl, hb, fun w'' h1 h2 => ⟨⟨(o.mid h1 h2).toIn, i.2, i.3⟩, N, rfl, (o.mid h1 h2).base (Nat.zero_le _)⟩⟩
def rndQ (q : Rat) : Int := rndI q.num q.den
def bitsQ (q : Rat) : Nat := max (bitsN q.num.natAbs) (bitsN q.den)
theorem if_max (a b : Nat) : (if ((b : Int) > (a : Int)) then (b : Int) else (a : Int)) = ((max a b : Nat) : Int) := by
  split <;> omega
/-- Is the struct the very one that stands for its number? -/
theorem sameB_norm {v z : SV} {x y : Int} {K K' : Nat} {w w' : World} (hv : IsI v x K w) (hz : IsN z y K' w') : sameB v z = (isn v.s v.l && decide (x = y)) := by
  obtain ⟨hz1, N, hs, _⟩ := hz
  have hx := hv.zi
  have hy := hz1.zi
  have hva := hv.abs
  have hza := hz1.abs
  unfold sameB isn
  by_cases e : x = y
  · subst e
    have ev : val v.l = val z.l := by rw [← hva, ← hza]
    by_cases ht : trim v.l = v.l
    · have hl : v.l = z.l := by
        have h1 := trim_norm hv.inn.dig
        rw [ht] at h1
        exact h1.unique N ev
      have hpos : decide (0 < v.l.length) = decide (0 < x.natAbs) := by
        have h1 := trim_norm hv.inn.dig
        rw [ht] at h1
        rw [← h1.len_pos, hva]
      rw [decide_eq_true ht, decide_eq_true hl, hpos]
      cases hvs : v.s
      · have : ¬ x < 0 := by rw [← hx, hvs]; simp [II.zi, Go.Proofs.YtlpnjoenkohadaaDoor.zi]
        rw [decide_eq_true (by rw [hs, decide_eq_false this])]; simp
      · rw [hs]
        have h2 : x = -(val v.l : Int) := by rw [← hx, hvs]; simp [Go.Proofs.YtlpnjoenkohadaaDoor.zi]
        by_cases hp : 0 < x.natAbs
        · rw [decide_eq_true hp, decide_eq_true (show x < 0 by omega)]; simp
        · rw [decide_eq_false hp, decide_eq_false (show ¬ x < 0 by omega)]; simp
    · have hl : v.l ≠ z.l := fun e => ht (by rw [e]; exact N.trim)
      rw [decide_eq_false ht, decide_eq_false hl]; simp
  · rw [decide_eq_false e]
    have : ¬ (v.s = z.s ∧ v.l = z.l) := fun ⟨h1, h2⟩ => e (by rw [← hx, ← hy, h1, h2])
    by_cases h1 : v.s = z.s
    · rw [decide_eq_false (fun h2 => this ⟨h1, h2⟩)]; simp
    · rw [decide_eq_false h1]; simp

/-- .. the struct of a fraction. -/
def isnQ (r : RV) (x y : Int) : Bool := decide (y ≠ 0) && (isn r.a.s r.a.l && decide (x = (Rat.divInt x y).num)) && (isn r.b.s r.b.l && decide (y = (Rat.divInt x y).den))
end

theorem sgn_lt0 (y : Int) : decide (sgn y < 0) = decide (y < 0) := by
  unfold sgn
  by_cases h : y < 0
  · rw [if_pos h, decide_eq_true h]; rfl
  · rw [if_neg h, decide_eq_false h]; split <;> rfl
theorem below_qd {w w' : World} (h : Qd w w') : Below w.heap.size w w' := by
  obtain ⟨q, rfl⟩ := h
  exact below_drewN (Below.refl _ _) q
theorem RetQ.post {w : World} {v : Value} {e : Ending} {w' : World} (h : RetQ w v e w') : CallPost w (fun _ : Unit => v) (fun _ _ => True) e w' := ⟨(), h.1, below_qd h.2, fun _ _ _ => trivial⟩
theorem quoI_pos {x g : Int} (hg : 0 < g) : quoI x g = x / g := by
  unfold quoI
  rw [if_neg (by omega), Int.fdiv_eq_ediv_of_nonneg _ (by omega)]
theorem red_num {x y : Int} (hy : y ≠ 0) : quoI (if y < 0 then -x else x) (Nat.gcd x.natAbs y.natAbs) = (Rat.divInt x y).num := by
  rw [quoI_pos (by have := gcd_nz (x := x) hy; omega), Rat.num_divInt]
  have hg : (y.gcd x : Nat) = Nat.gcd x.natAbs y.natAbs := Nat.gcd_comm _ _
  rw [hg]
  by_cases h : y < 0
  · rw [if_pos h, Int.sign_eq_neg_one_of_neg h]; congr 1; omega
  · rw [if_neg h, Int.sign_eq_one_of_pos (by omega)]; congr 1; omega
theorem red_den {x y : Int} (hy : y ≠ 0) : quoI (if y < 0 then -y else y) (Nat.gcd x.natAbs y.natAbs) = ((Rat.divInt x y).den : Int) := by
  rw [quoI_pos (by have := gcd_nz (x := x) hy; omega), ← den_parts hy, show (if y < 0 then -y else y) = (y.natAbs : Int) by split <;> omega]
  simp [zi]
theorem gcd_lt {x y : Int} {K : Nat} (hy : y.natAbs < pw K) (h0 : y ≠ 0) : Nat.gcd x.natAbs y.natAbs < pw K := Nat.lt_of_le_of_lt (Nat.gcd_le_right _ (by omega)) hy

section
variable {a b : RV} {p q : Rat} {K K1 K2 : Nat} {w : World}
theorem sub_neg' (p q : Rat) : p + -q = p - q := by grind
theorem half_rat (s : Rat) : Rat.divInt s.num (s.den * 2) = s / 2 := by
  have h := Rat.divInt_mul_divInt s.num 1 (d₁ := s.den) (d₂ := 2)
  rw [Rat.num_divInt_den, Int.mul_one] at h
  rw [← h, Rat.div_def, Rat.inv_def]
  rfl
def sameQB (a b : RV) : Bool := sameB a.a b.a && sameB a.b b.b
end

/-- A literal slice. -/
def litS (t : TypeId) (n : Nat) (parts : Array (Nat × Value)) : Sem Next := Instr.buildSlice t n parts >>= fun v => pure (.value v)
def litV (n : Nat) (g : Nat) : Value := .slice (some ⟨g, 0, none⟩) n n
def litG (elem : TypeId) (cells : Array Value) (g : Nat) (w : World) : Prop := w.heap[g]? = some (.cells cells elem (0, 0))
def litOf (P : Program) (t : TypeId) (len : Nat) (parts : Array (Nat × Value)) : Option (TypeId × Array Value) :=
  match P.underlying t with
  | some (.slice elem) => match sizeT P elem, zeroOf P elem with
    | some n, some z => if Nat.beq (len * n) 0 then (match Instr.fill (fun i => some (i * n, n)) ((Array.range (len * n)).map ((#[] : Array Value)[· % (#[] : Array Value).size]!)) parts.toList with
        | some cells => some (elem, cells)
        | none => none)
      else if Nat.ble (len * n) 16777216 then (match Instr.fill (fun i => some (i * n, n)) ((Array.range (len * n)).map (z.cells[· % z.cells.size]!)) parts.toList with
        | some cells => some (elem, cells)
        | none => none) else none
    | _, _ => none
  | _ => none
theorem make_lit {P : Program} {t elem : TypeId} {len : Nat} {parts : Array (Nat × Value)} {cells : Array Value} {w : World} (h : litOf P t len parts = some (elem, cells)) :
    MakePost P w (litV len) (litG elem cells) (litS t len parts) := by
  unfold litOf at h
  split at h
  · rename_i elem' hu
    split at h
    · rename_i n z hn hz
      have fin : ∀ cs, (Instr.buildSlice t len parts).run P w = .ok (.slice (some ⟨w.heap.size, 0, none⟩) len len) (w.alloc (.cells cs elem')) → some (elem', cs) = some (elem, cells) → MakePost P w (litV len) (litG elem cells) (litS t len parts) := by
        intro cs hr he
        injection he with he
        injection he with h1 h2
        subst h1; subst h2
        refine ⟨w.heap.size, w.alloc (.cells cs elem'), ?_, below_new _ _, fun w'' h1 h2 => ?_⟩
        · simp only [litS, Sem.run_bind, hr, Result.andThen_ok, Sem.run_pure, litV]
        · unfold litG
          rw [h2 w.heap.size (Nat.le_refl _) (by simp)]
          show (w.heap.push _)[w.heap.size]? = _
          simp
      split at h
      · rename_i h0
        have h0 := Nat.eq_of_beq_eq_true h0
        split at h
        · rename_i cs hf
          refine fin cs ?_ h
          have e1 : ¬ len * n > 2 ^ 24 := by omega
          simp only [Instr.buildSlice, Sem.run_bind, run_underlying hu, Result.andThen_ok, run_sizeT hn, if_neg e1, if_pos h0, Sem.run_pure, hf]
          rfl
        · cases h
      · rename_i h0
        have h0 : ¬ len * n = 0 := fun e => h0 (by rw [e]; rfl)
        split at h
        · rename_i hle
          have hle := Nat.le_of_ble_eq_true hle
          split at h
          · rename_i cs hf
            refine fin cs ?_ h
            have e1 : ¬ len * n > 2 ^ 24 := by omega
            simp only [Instr.buildSlice, Sem.run_bind, run_underlying hu, Result.andThen_ok, run_sizeT hn, if_neg e1, if_neg h0, run_zeroOf hz, Sem.run_pure, hf]
            rfl
          · cases h
        · cases h
    · cases h
  · cases h

theorem isn_n2 {v : SV} {x : Int} {K : Nat} {w : World} (h : IsN v x K w) : isn v.s v.l = true := by
  obtain ⟨h1, N, hs, _⟩ := h
  have hva := h1.abs
  unfold isn
  rw [decide_eq_true N.trim, ← N.len_pos, ← hva]
  cases hv : v.s
  · rfl
  · rw [hv] at hs
    have : x < 0 := by simpa using hs.symm
    rw [decide_eq_true (by omega)]; rfl

end Go.Proofs.YtlpnjoenkohadaaDoor
