/-
  The laws of fractions.
-/
import Derived.Test.YtjdcolaefhheaaaQP
namespace Go.Proofs.Ytjdcolaefhheaaa
set_option linter.unusedVariables false
set_option linter.unusedSimpArgs false
open Go.RowKit

/-- A literal number of one digit. -/
def lit1 (s : Bool) (g d : Nat) : SV := ⟨s, some ⟨g, 0, none⟩, 1, 1, [d]⟩
theorem lit1_n {t : TypeId} {g d : Nat} {s : Bool} {w : World} {x : Int} (h : litG t #[.int .u32 (d : Int)] g w) (h0 : d ≠ 0) (hd : d < 4294967296) (hx : zi s d = x) (hs : s = decide (x < 0)) : IsN (lit1 s g d) x 1 w := by
  have hmk : Mk w g t [d] := h
  have ho := hmk.own (B := 0) (Dig.one hd) (by omega) (by simp [maxLen])
  refine ⟨⟨ho.toIn, ?_, Nat.le_refl _⟩, ⟨Dig.one hd, .inr ?_⟩, hs, ho⟩
  · show zi s (val [d]) = x
    rw [← hx]; simp [val]
  · show dg [d] 0 ≠ 0
    simpa [dg] using h0
theorem sameB_nn {v z : SV} {x y : Int} {K K' : Nat} {w w' : World} (hv : IsN v x K w) (hz : IsN z y K' w') : sameB v z = decide (x = y) := by
  rw [sameB_norm hv.i hz, isn_n2 hv, Bool.true_and]
theorem sameQB_nn {a b : RV} {p q : Rat} {K K' : Nat} {w w' : World} (ha : IsQN a p K w) (hb : IsQN b q K' w') : sameQB a b = decide (p = q) := by
  unfold sameQB
  rw [sameB_nn ha.1 hb.1, sameB_nn ha.2 hb.2]
  by_cases e : p = q
  · subst e; simp
  · rw [decide_eq_false e]
    by_cases h : p.num = q.num
    · rw [decide_eq_false (fun (k : (p.den : Int) = q.den) => e (Rat.ext h (by omega)))]; simp
    · rw [decide_eq_false h]; rfl
theorem isI0 (w : World) : IsI SV0 0 2 w := ⟨In.nil_, rfl, by decide⟩
theorem isQ0 (w : World) : IsQ RV0 0 2 w := ⟨0, 0, isI0 w, isI0 w, by rw [divInt_zero']⟩

section
variable {a b : RV} {p q : Rat} {K K1 K2 : Nat} {w : World}
theorem rsame_nn {B : Bool} (ha : IsQN a p K w) (hb : IsQN b q K1 w) (h : decide (p = q) = B) : Calls Try.prog 21 #[a.val, b.val] w (CallPost w (fun _ : Unit => .bool B) fun _ _ => True) :=
  rsame_v (by rw [sameQB_nn ha hb]; exact h) ha.1.i ha.2.i hb.1.i hb.2.i
theorem rsameInt_nn {a b : SV} {x y : Int} {B : Bool} (ha : IsN a x K w) (hb : IsN b y K1 w) (h : decide (x = y) = B) : Calls Try.prog 79 #[a.val, b.val] w (CallPost w (fun _ : Unit => .bool B) fun _ _ => True) :=
  rsameInt_v (by rw [sameB_nn ha hb]; exact h) ha.i hb.i
theorem qcmp_v {v : Int} (hv : cmpQ p q = v) (ha : IsQ a p K1 w) (hb : IsQ b q K2 w) (hK : 2 ≤ K1 ∧ 2 ≤ K2 ∧ K1 + K2 ≤ 68719476736) :
    Calls Try.prog 38 #[a.val, b.val] w (CallPost w (fun _ : Unit => .int .i64 v) fun _ _ => True) := by subst hv; exact qcmp_m ha hb hK
theorem qisn_v {x y : Int} {B : Bool} (hB : isnQ a x y = B) (hx : IsI a.a x K w) (hy : IsI a.b y K w) (hK : 2 ≤ K ∧ K ≤ 68719476736) :
    Calls Try.prog 23 #[a.val] w (CallPost w (fun _ : Unit => .bool B) fun _ _ => True) := by subst hB; exact qisn_m hx hy hK
theorem isnQ_n (ha : IsQN a p K w) : isnQ a p.num p.den = true := by
  unfold isnQ
  rw [Rat.num_divInt_den, isn_n2 ha.1, isn_n2 ha.2, decide_eq_true (by have := p.den_nz; omega), decide_eq_true rfl, decide_eq_true rfl]; rfl
theorem qisn_n (ha : IsQN a p K w) (hK : 2 ≤ K ∧ K ≤ 68719476736) : Calls Try.prog 23 #[a.val] w (CallPost w (fun _ : Unit => .bool true) fun _ _ => True) :=
  qisn_v (isnQ_n ha) ha.1.i ha.2.i hK
theorem qbitLen_v {n : Int} (hn : (bitsQ q : Int) = n) (ha : IsQ a q K w) (hK : 2 ≤ K ∧ K ≤ 68719476736) :
    Calls Try.prog 25 #[a.val] w (CallPost w (fun _ : Unit => .int .i64 n) fun _ _ => True) := by subst hn; exact qbitLen_m ha hK

def smallB (a : RV) : Bool := decide (a.a.n ≤ 40) && decide (a.b.n ≤ 40)
set_option maxRecDepth 100000 in
set_option maxHeartbeats 1000000 in
theorem small_v {B : Bool} (hB : smallB a = B) : Calls Try.prog 15 #[a.val] w (CallPost w (fun _ : Unit => .bool B) fun _ _ => True) := by
  subst hB
  by_cases h40 : a.a.n ≤ 40
  ·
    refine Good.enter Try.func15 rfl ?_
    refine Good.run (by kernel_rfl) (stop := 5) 1000 _ ?_
    refine Good.slot 7 (.bool (decide ((a.a.n : Int) ≤ 40))) (.bool true) (by kernel_rfl) (by rw [decide_eq_true (by omega)]) ?_
    refine Good.run (by kernel_rfl) (stop := 1000) 1000 _ ?_
    refine Good.ret (v := .bool (decide ((a.b.n : Int) ≤ 40))) (by kernel_rfl) (fun w1 hw h => ⟨(), by unfold smallB; rw [decide_eq_true h40, Bool.true_and, show decide ((a.b.n : Int) ≤ 40) = decide (a.b.n ≤ 40) from decide_eq_decide.2 (by omega)], hw, fun _ _ _ => trivial⟩)
  ·
    refine Good.enter Try.func15 rfl ?_
    refine Good.run (by kernel_rfl) (stop := 5) 1000 _ ?_
    refine Good.slot 7 (.bool (decide ((a.a.n : Int) ≤ 40))) (.bool false) (by kernel_rfl) (by rw [decide_eq_false (by omega)]) ?_
    refine Good.run (by kernel_rfl) (stop := 1000) 1000 _ ?_
    refine Good.ret (v := .bool false) (by kernel_rfl) (fun w1 hw h => ⟨(), by unfold smallB; rw [decide_eq_false h40]; rfl, hw, fun _ _ _ => trivial⟩)
end
set_option maxRecDepth 100000 in
set_option maxHeartbeats 1000000 in
theorem qexample_m (w : World) : Calls Try.prog 16 #[] w (CallPost w (fun _ : Unit => .bool true) fun _ _ => True) := by
  have e1 : (Rat.divInt 6 (-4)).num = -3 ∧ (Rat.divInt 6 (-4)).den = 2 := by decide +kernel
  have e2 : (Rat.divInt 1 2).num = 1 ∧ (Rat.divInt 1 2).den = 2 := by decide +kernel
  have e3 : (Rat.divInt (-1) 2).num = -1 ∧ (Rat.divInt (-1) 2).den = 2 := by decide +kernel
  have r2 : rndQ (Rat.divInt 1 2) = 1 := by unfold rndQ; rw [e2.1, e2.2]; decide
  have r3 : rndQ (Rat.divInt (-1) 2) = -1 := by unfold rndQ; rw [e3.1, e3.2]; decide
  refine Good.enter Try.func16 rfl ?_
  refine Good.run (by kernel_rfl) (stop := 1000) 1000 _ ?_
  refine Good.callv (fun w1 hw h => qfromInts_m (x := 6) (y := -4) (by decide) (by decide)) (by kernel_rfl) (fun f => ?_)
  refine Good.run (by kernel_rfl) (stop := 1000) 1000 _ ?_
  refine Good.callv (fun w1 hw h => qfromInts_m (x := 1) (y := 2) (by decide) (by decide)) (by kernel_rfl) (fun up => ?_)
  refine Good.run (by kernel_rfl) (stop := 1000) 1000 _ ?_
  refine Good.callv (fun w1 hw h => qfromInts_m (x := -1) (y := 2) (by decide) (by decide)) (by kernel_rfl) (fun down => ?_)
  refine Good.run (by kernel_rfl) (stop := 1000) 1000 _ ?_
  refine Good.make (litS (22) 1 #[(0, .int .u32 3)]) (litV 1) (litG 53 #[.int .u32 3]) (by kernel_rfl) (fun w1 hw h => make_lit (by kernel_rfl)) (fun g1 => ?_)
  refine Good.run (by kernel_rfl) (stop := 1000) 1000 _ ?_
  refine Good.make (litS (22) 1 #[(0, .int .u32 2)]) (litV 1) (litG 53 #[.int .u32 2]) (by kernel_rfl) (fun w1 hw h => make_lit (by kernel_rfl)) (fun g2 => ?_)
  refine Good.run (by kernel_rfl) (stop := 1000) 1000 _ ?_
  refine Good.make (litS (22) 1 #[(0, .int .u32 1)]) (litV 1) (litG 53 #[.int .u32 1]) (by kernel_rfl) (fun w1 hw h => make_lit (by kernel_rfl)) (fun g3 => ?_)
  refine Good.run (by kernel_rfl) (stop := 1000) 1000 _ ?_
  refine Good.make (litS (22) 1 #[(0, .int .u32 1)]) (litV 1) (litG 53 #[.int .u32 1]) (by kernel_rfl) (fun w1 hw h => make_lit (by kernel_rfl)) (fun g4 => ?_)
  refine Good.run (by kernel_rfl) (stop := 1000) 1000 _ ?_
  refine Good.callv (fun w1 hw h => rsame_nn (B := true) (K := 2) (K1 := 1) (p := Rat.divInt 6 (-4)) (q := Rat.divInt 6 (-4)) (a := f) (b := ⟨lit1 true g1 3, lit1 false g2 2⟩) (h.1.1.1.1.1.1.2.n (by decide)) ⟨lit1_n h.1.1.1.2 (by decide) (by decide) (by rw [e1.1]; rfl) (by rw [e1.1]; rfl), lit1_n h.1.1.2 (by decide) (by decide) (by rw [e1.2]; rfl) (by rw [e1.2]; rfl)⟩ (by simp)) (by kernel_rfl) (fun u => ?_)
  refine Good.run (by kernel_rfl) (stop := 1000) 1000 _ ?_
  refine Good.callv (fun w1 hw h => qround_m (K := 2) (h.1.1.1.1.1.1.2.n (by decide)).q (by decide)) (by kernel_rfl) (fun r => ?_)
  refine Good.run (by kernel_rfl) (stop := 1000) 1000 _ ?_
  refine Good.callv (fun w1 hw h => rsameInt_nn (B := true) (a := r) (b := lit1 false g3 1) (x := rndQ (Rat.divInt 1 2)) (y := 1) h.2 (lit1_n h.1.1.1.2 (by decide) (by decide) rfl rfl) (by rw [r2]; rfl)) (by kernel_rfl) (fun u => ?_)
  refine Good.run (by kernel_rfl) (stop := 1000) 1000 _ ?_
  refine Good.callv (fun w1 hw h => qround_m (K := 2) (h.1.1.1.1.1.1.1.2.n (by decide)).q (by decide)) (by kernel_rfl) (fun r => ?_)
  refine Good.run (by kernel_rfl) (stop := 1000) 1000 _ ?_
  refine Good.callv (fun w1 hw h => rsameInt_nn (B := true) (a := r) (b := lit1 true g4 1) (x := rndQ (Rat.divInt (-1) 2)) (y := -1) h.2 (lit1_n h.1.1.1.1.2 (by decide) (by decide) rfl rfl) (by rw [r3]; rfl)) (by kernel_rfl) (fun u => ?_)
  refine Good.run (by kernel_rfl) (stop := 1000) 1000 _ ?_
  refine Good.callv (fun w1 hw h => qfromInt_m 0 w1 (by decide) (by decide)) (by kernel_rfl) (fun z => ?_)
  refine Good.run (by kernel_rfl) (stop := 1000) 1000 _ ?_
  refine Good.callv (fun w1 hw h => qcmp_v (v := 0) (a := RV0) (p := 0) (q := ((0 : Int) : Rat)) (by decide +kernel) (isQ0 w1) h.2.q (by decide)) (by kernel_rfl) (fun u => ?_)
  refine Good.run (by kernel_rfl) (stop := 1000) 1000 _ ?_
  refine Good.callv (fun w1 hw h => qisn_v (a := RV0) (x := 0) (y := 0) (K := 2) (B := false) rfl (isI0 w1) (isI0 w1) (by decide)) (by kernel_rfl) (fun u => ?_)
  refine Good.run (by kernel_rfl) (stop := 1000) 1000 _ ?_
  refine Good.callv (fun w1 hw h => qbitLen_v (n := 2) (a := ⟨lit1 true g1 3, lit1 false g2 2⟩) (q := Rat.divInt 6 (-4)) (K := 2) (by unfold bitsQ; rw [e1.1, e1.2]; decide) (IsQN.q (IsQN.mono (K := 1) ⟨lit1_n h.1.1.1.1.1.1.1.1.1.1.1.2 (by decide) (by decide) (by rw [e1.1]; rfl) (by rw [e1.1]; rfl), lit1_n h.1.1.1.1.1.1.1.1.1.1.2 (by decide) (by decide) (by rw [e1.2]; rfl) (by rw [e1.2]; rfl)⟩ (by decide))) (by decide)) (by kernel_rfl) (fun u => ?_)
  refine Good.run (by kernel_rfl) (stop := 1000) 1000 _ ?_
  refine Good.ret (v := .bool true) (by kernel_rfl) (fun w1 hw h => ⟨(), rfl, hw, fun _ _ _ => trivial⟩)

section
variable {a b : RV} {p q : Rat} {K K1 K2 : Nat} {w : World}
def EVal (e : Int) (r : RV) : Value := .tuple #[r.val, .int .i64 e]
theorem qfromInts_e {x y e : Int} (he : divEI y = e) (hx : -9223372036854775808 ≤ x ∧ x ≤ 9223372036854775807) (hy : -9223372036854775808 ≤ y ∧ y ≤ 9223372036854775807) :
    Calls Try.prog 28 #[.int .i64 x, .int .i64 y] w (CallPost w (EVal e) fun r w => IsQE r x y 2 w) := by subst he; exact qfromInts_m hx hy
theorem rqfromInts_e {x y e : Int} (he : divEI y = e) (hx : -9223372036854775808 ≤ x ∧ x ≤ 9223372036854775807) (hy : -9223372036854775808 ≤ y ∧ y ≤ 9223372036854775807) :
    Calls Try.prog 29 #[.int .i64 x, .int .i64 y] w (CallPost w (EVal e) fun r w => IsQE r x y 2 w) := by subst he; exact rqfromInts_m hx hy
theorem IsQE.sameB {r s : RV} {x y : Int} {K K' : Nat} {w w' : World} (hr : IsQE r x y K w) (hs : IsQE s x y K' w') : sameQB r s = true := by
  by_cases h : y = 0
  · unfold IsQE at hr hs
    rw [if_pos h] at hr hs
    rw [hr, hs]; rfl
  · rw [sameQB_nn (hr.n h) (hs.n h)]; simp
theorem IsQE.ii {r : RV} {x y : Int} {K : Nat} {w : World} (hK : 2 ≤ K) (hr : IsQE r x y K w) : ∃ u v : Int, IsI r.a u K w ∧ IsI r.b v K w := by
  by_cases h : y = 0
  · unfold IsQE at hr
    rw [if_pos h] at hr
    rw [hr]
    exact ⟨0, 0, (isI0 w).mono hK, (isI0 w).mono hK⟩
  · exact ⟨_, _, (hr.n h).1.i, (hr.n h).2.i⟩
theorem rsame_e {x y : Int} (hK : 2 ≤ K ∧ 2 ≤ K1) (ha : IsQE a x y K w) (hb : IsQE b x y K1 w) : Calls Try.prog 21 #[a.val, b.val] w (CallPost w (fun _ : Unit => .bool true) fun _ _ => True) := by
  obtain ⟨u, v, h1, h2⟩ := ha.ii hK.1
  obtain ⟨s, t, h3, h4⟩ := hb.ii hK.2
  exact rsame_v (ha.sameB hb) h1 h2 h3 h4

set_option maxRecDepth 100000 in
set_option maxHeartbeats 1000000 in
theorem lawFromInts {x y : Int} (w : World) (hx : -9223372036854775808 ≤ x ∧ x ≤ 9223372036854775807) (hy : -9223372036854775808 ≤ y ∧ y ≤ 9223372036854775807) :
    Calls Try.prog 4 #[.int .i64 x, .int .i64 y] w (CallPost w (fun _ : Unit => .bool true) fun _ _ => True) := by
  by_cases h0 : y = 0
  ·
    refine Good.enter Try.func4 rfl ?_
    refine Good.run (by kernel_rfl) (stop := 1000) 1000 _ ?_
    refine Good.callv (fun w1 hw h => qfromInts_e (divEI_yes h0) hx hy) (by kernel_rfl) (fun a => ?_)
    refine Good.run (by kernel_rfl) (stop := 1000) 1000 _ ?_
    refine Good.callv (fun w1 hw h => rqfromInts_e (divEI_yes h0) hx hy) (by kernel_rfl) (fun b => ?_)
    refine Good.run (by kernel_rfl) (stop := 1000) 1000 _ ?_
    refine Good.callv (fun w1 hw h => qfromInt_m x w1 hx.1 hx.2) (by kernel_rfl) (fun c => ?_)
    refine Good.run (by kernel_rfl) (stop := 1000) 1000 _ ?_
    refine Good.callv (fun w1 hw h => rsame_e (K := 2) (K1 := 2) (by decide) h.1.1.2 h.1.2) (by kernel_rfl) (fun u => ?_)
    refine Good.run (by kernel_rfl) (stop := 13) 1000 _ ?_
    refine Good.slot 36 (.bool (y != 0)) (.bool false) (by kernel_rfl) (by simp [h0]) ?_
    refine Good.run (by kernel_rfl) (stop := 1000) 1000 _ ?_
    refine Good.callv (fun w1 hw h => rqfromInt_m x w1 hx.1 hx.2) (by kernel_rfl) (fun d => ?_)
    refine Good.run (by kernel_rfl) (stop := 1000) 1000 _ ?_
    refine Good.callv (fun w1 hw h => rsame_nn (B := true) h.1.1.2 h.2 (by simp)) (by kernel_rfl) (fun u => ?_)
    refine Good.run (by kernel_rfl) (stop := 1000) 1000 _ ?_
    refine Good.callv (fun w1 hw h => qisn_n h.1.1.1.2 (by decide)) (by kernel_rfl) (fun u => ?_)
    refine Good.run (by kernel_rfl) (stop := 1000) 1000 _ ?_
    refine Good.callv (fun w1 hw h => qexample_m w1) (by kernel_rfl) (fun u => ?_)
    refine Good.run (by kernel_rfl) (stop := 1000) 1000 _ ?_
    refine Good.ret (v := .bool true) (by kernel_rfl) (fun w1 hw h => ⟨(), rfl, hw, fun _ _ _ => trivial⟩)
  ·
    refine Good.enter Try.func4 rfl ?_
    refine Good.run (by kernel_rfl) (stop := 1000) 1000 _ ?_
    refine Good.callv (fun w1 hw h => qfromInts_e (divEI_no h0) hx hy) (by kernel_rfl) (fun a => ?_)
    refine Good.run (by kernel_rfl) (stop := 1000) 1000 _ ?_
    refine Good.callv (fun w1 hw h => rqfromInts_e (divEI_no h0) hx hy) (by kernel_rfl) (fun b => ?_)
    refine Good.run (by kernel_rfl) (stop := 1000) 1000 _ ?_
    refine Good.callv (fun w1 hw h => qfromInt_m x w1 hx.1 hx.2) (by kernel_rfl) (fun c => ?_)
    refine Good.run (by kernel_rfl) (stop := 1000) 1000 _ ?_
    refine Good.callv (fun w1 hw h => rsame_e (K := 2) (K1 := 2) (by decide) h.1.1.2 h.1.2) (by kernel_rfl) (fun u => ?_)
    refine Good.run (by kernel_rfl) (stop := 13) 1000 _ ?_
    refine Good.slot 36 (.bool (y != 0)) (.bool true) (by kernel_rfl) (by simp [h0]) ?_
    refine Good.run (by kernel_rfl) (stop := 1000) 1000 _ ?_
    refine Good.callv (fun w1 hw h => qisn_n (h.1.1.1.2.n h0) (by decide)) (by kernel_rfl) (fun u => ?_)
    refine Good.run (by kernel_rfl) (stop := 1000) 1000 _ ?_
    refine Good.callv (fun w1 hw h => rqfromInt_m x w1 hx.1 hx.2) (by kernel_rfl) (fun d => ?_)
    refine Good.run (by kernel_rfl) (stop := 1000) 1000 _ ?_
    refine Good.callv (fun w1 hw h => rsame_nn (B := true) h.1.1.1.2 h.2 (by simp)) (by kernel_rfl) (fun u => ?_)
    refine Good.run (by kernel_rfl) (stop := 1000) 1000 _ ?_
    refine Good.callv (fun w1 hw h => qisn_n h.1.1.1.1.2 (by decide)) (by kernel_rfl) (fun u => ?_)
    refine Good.run (by kernel_rfl) (stop := 1000) 1000 _ ?_
    refine Good.callv (fun w1 hw h => qexample_m w1) (by kernel_rfl) (fun u => ?_)
    refine Good.run (by kernel_rfl) (stop := 1000) 1000 _ ?_
    refine Good.ret (v := .bool true) (by kernel_rfl) (fun w1 hw h => ⟨(), rfl, hw, fun _ _ _ => trivial⟩)

theorem cmpQ_le {p q : Rat} (h : p ≤ q) : cmpQ p q ≤ 0 := by
  unfold cmpQ
  split
  · decide
  · split
    · decide
    · rename_i h1 h2
      exact absurd (Rat.le_antisymm h (Rat.not_lt.1 h1)) h2
theorem cmpQ_ge {p q : Rat} (h : q ≤ p) : 0 ≤ cmpQ p q := by
  unfold cmpQ
  split
  · rename_i h1
    exact absurd h (Rat.not_le.2 h1)
  · split <;> decide
theorem rnd_bound (q : Rat) : -(q.den : Int) ≤ 2 * q.num - 2 * rndQ q * q.den ∧ 2 * q.num - 2 * rndQ q * q.den ≤ q.den := by
  have hd := q.den_nz
  unfold rndQ rndI
  rw [if_neg (by omega)]
  generalize hx : q.num = x
  generalize hy : q.den = y at hd
  have h1 := Nat.div_add_mod (2 * x.natAbs + y) (2 * y)
  have h2 := Nat.mod_lt (2 * x.natAbs + y) (show 0 < 2 * y by omega)
  rw [show ((y : Int)).natAbs = y by omega]
  generalize (2 * x.natAbs + y) / (2 * y) = k at h1
  generalize (2 * x.natAbs + y) % (2 * y) = r at h1 h2
  have h3 : 2 * y * k = 2 * (k * y) := by rw [Nat.mul_assoc, Nat.mul_comm y k]
  rw [h3] at h1
  have h4 : ((k * y : Nat) : Int) = (k : Int) * y := by simp
  have hyn : decide ((y : Int) < 0) = false := decide_eq_false (by omega)
  rw [hyn]
  by_cases hx0 : x < 0
  · rw [decide_eq_true hx0]
    simp only [zi, Bool.true_beq, Bool.not_false, if_true]
    rw [show 2 * -(k : Int) * y = -(2 * (k * y)) by rw [Int.mul_assoc, Int.neg_mul, Int.mul_neg]]
    omega
  · rw [decide_eq_false hx0]
    simp only [zi, beq_self_eq_true, Bool.not_true, Bool.false_eq_true, if_false]
    rw [show 2 * (k : Int) * y = 2 * (k * y) by rw [Int.mul_assoc]]
    omega
theorem rat_one (x : Int) : Rat.divInt x 1 = (x : Rat) := by
  refine Rat.ext ?_ ?_
  · rw [Rat.num_divInt]; simp
  · rw [Rat.den_divInt]; simp
theorem rat_mul_den (q : Rat) : q * ((q.den : Int) : Rat) = (q.num : Rat) := by
  have h := Rat.divInt_mul_divInt q.num q.den (d₁ := q.den) (d₂ := 1)
  rw [Rat.num_divInt_den, rat_one, Int.mul_comm (q.den : Int) 1, Rat.divInt_mul_right (by have := q.den_nz; omega), rat_one] at h
  exact h
theorem den_pos (q : Rat) : (0 : Rat) < ((q.den : Int) : Rat) := by
  have := q.den_nz
  have h := Rat.intCast_lt_intCast (a := 0) (b := q.den)
  exact h.2 (by omega)
theorem off_le (q : Rat) : q + q - ((rndQ q : Rat) + (rndQ q : Rat)) ≤ 1 ∧ -1 ≤ q + q - ((rndQ q : Rat) + (rndQ q : Rat)) := by
  obtain ⟨h1, h2⟩ := rnd_bound q
  have hm := rat_mul_den q
  have hp := den_pos q
  have k1 := Rat.intCast_le_intCast.2 h1
  have k2 := Rat.intCast_le_intCast.2 h2
  rw [Rat.intCast_sub, Rat.intCast_mul, Rat.intCast_mul, Rat.intCast_mul] at k1 k2
  rw [Rat.intCast_neg] at k1
  generalize ((q.den : Int) : Rat) = D at hm hp k1 k2
  generalize (q.num : Rat) = N at hm k1 k2
  generalize (rndQ q : Rat) = H at k1 k2
  have e : ((2 : Int) : Rat) * N - ((2 : Int) : Rat) * H * D = (q + q - (H + H)) * D := by
    have : ((2 : Int) : Rat) = 2 := rfl
    rw [this, ← hm]; grind
  rw [e] at k1 k2
  refine ⟨Rat.le_of_mul_le_mul_right (c := D) ?_ hp, Rat.le_of_mul_le_mul_right (c := D) ?_ hp⟩
  · rw [Rat.one_mul]; exact k2
  · rw [Rat.neg_mul, Rat.one_mul]; exact k1
theorem ceil_floor (q : Rat) : (q.ceil : Rat) - (q.floor : Rat) ≤ 1 := by
  have h1 : q.ceil ≤ q.floor + 1 := Rat.ceil_le_iff.2 (Rat.le_of_lt (Rat.lt_floor_add_one q))
  have h2 := Rat.intCast_le_intCast.2 h1
  have : ((q.floor + 1 : Int) : Rat) = (q.floor : Rat) + 1 := by simp
  rw [this] at h2
  grind
theorem isQ_int {v o : SV} {x : Int} (hv : IsN v x K w) (ho : IsN o 1 K1 w) (hK : K1 ≤ K) : IsQ ⟨v, o⟩ (x : Rat) K w := ⟨x, 1, hv.i, ho.i.mono hK, (rat_one x).symm⟩
theorem ceil_ge (q : Rat) : q ≤ (q.ceil : Rat) := Rat.ceil_le_iff.1 (Int.le_refl _)
set_option maxRecDepth 100000 in
set_option maxHeartbeats 1000000 in
theorem lawRounding {x y : Int} (hx : IsI a.a x K w) (hy : IsI a.b y K w) :
    Calls Try.prog 13 #[a.val] w (CallPost w (fun _ : Unit => .bool true) fun _ _ => True) := by
  cases hs : smallB a
  ·
    refine Good.enter Try.func13 rfl ?_
    refine Good.run (by kernel_rfl) (stop := 1000) 1000 _ ?_
    refine Good.callv (fun w1 hw h => small_v hs) (by kernel_rfl) (fun u => ?_)
    refine Good.run (by kernel_rfl) (stop := 1000) 1000 _ ?_
    refine Good.cond true (by kernel_rfl) ?_
    refine Good.run (by kernel_rfl) (stop := 1000) 1000 _ ?_
    refine Good.callv (fun w1 hw h => qexample_m w1) (by kernel_rfl) (fun u => ?_)
    refine Good.run (by kernel_rfl) (stop := 1000) 1000 _ ?_
    refine Good.ret (v := .bool true) (by kernel_rfl) (fun w1 hw h => ⟨(), rfl, hw, fun _ _ _ => trivial⟩)
  · obtain ⟨q, hq⟩ : ∃ q, q = Rat.divInt x y := ⟨_, rfl⟩
    have ha : IsQ a q 40 w := by
      simp only [smallB, Bool.and_eq_true, decide_eq_true_eq] at hs
      exact ⟨x, y, ⟨hx.inn, hx.zi, hs.1⟩, ⟨hy.inn, hy.zi, hs.2⟩, hq⟩
    have c1 := cmpQ_le (Rat.floor_le q)
    have c2 := cmpQ_ge (ceil_ge q)
    have c3 := cmpQ_le (ceil_floor q)
    have c4 := cmpQ_le (off_le q).1
    have c5 := cmpQ_ge (off_le q).2
    refine Good.enter Try.func13 rfl ?_
    refine Good.run (by kernel_rfl) (stop := 1000) 1000 _ ?_
    refine Good.callv (fun w1 hw h => small_v hs) (by kernel_rfl) (fun u => ?_)
    refine Good.run (by kernel_rfl) (stop := 1000) 1000 _ ?_
    refine Good.cond false (by kernel_rfl) ?_
    refine Good.run (by kernel_rfl) (stop := 1000) 1000 _ ?_
    refine Good.callv (fun w1 hw h => qfloor_m (ha.below hw) (by decide)) (by kernel_rfl) (fun l => ?_)
    refine Good.run (by kernel_rfl) (stop := 1000) 1000 _ ?_
    refine Good.callv (fun w1 hw h => qceil_m (ha.below hw) (by decide)) (by kernel_rfl) (fun g => ?_)
    refine Good.run (by kernel_rfl) (stop := 1000) 1000 _ ?_
    refine Good.callv (fun w1 hw h => qround_m (ha.below hw) (by decide)) (by kernel_rfl) (fun n => ?_)
    refine Good.run (by kernel_rfl) (stop := 1000) 1000 _ ?_
    refine Good.callv (fun w1 hw h => rqfloor_m (ha.below hw) (by decide)) (by kernel_rfl) (fun v => ?_)
    refine Good.run (by kernel_rfl) (stop := 1000) 1000 _ ?_
    refine Good.callv (fun w1 hw h => rsameInt_nn (B := true) h.1.1.1.2 h.2 (by simp)) (by kernel_rfl) (fun u => ?_)
    refine Good.run (by kernel_rfl) (stop := 1000) 1000 _ ?_
    refine Good.callv (fun w1 hw h => rqceil_m (ha.below hw) (by decide)) (by kernel_rfl) (fun v => ?_)
    refine Good.run (by kernel_rfl) (stop := 1000) 1000 _ ?_
    refine Good.callv (fun w1 hw h => rsameInt_nn (B := true) h.1.1.1.1.2 h.2 (by simp)) (by kernel_rfl) (fun u => ?_)
    refine Good.run (by kernel_rfl) (stop := 1000) 1000 _ ?_
    refine Good.callv (fun w1 hw h => rqround_m (ha.below hw) (by decide)) (by kernel_rfl) (fun v => ?_)
    refine Good.run (by kernel_rfl) (stop := 1000) 1000 _ ?_
    refine Good.callv (fun w1 hw h => rsameInt_nn (B := true) h.1.1.1.1.1.2 h.2 (by simp)) (by kernel_rfl) (fun u => ?_)
    refine Good.run (by kernel_rfl) (stop := 1000) 1000 _ ?_
    refine Good.cond false (by kernel_rfl) ?_
    refine Good.run (by kernel_rfl) (stop := 1000) 1000 _ ?_
    refine Good.callv (fun w1 hw h => rqfromInt_m 1 w1 (by decide) (by decide)) (by kernel_rfl) (fun o => ?_)
    refine Good.run (by kernel_rfl) (stop := 1000) 1000 _ ?_
    refine Good.callv (fun w1 hw h => qadd_m (ha.below hw) (ha.below hw) (by decide)) (by kernel_rfl) (fun s => ?_)
    refine Good.run (by kernel_rfl) (stop := 1000) 1000 _ ?_
    refine Good.callv (fun w1 hw h => qadd_m (a := ⟨n, o.a⟩) (b := ⟨n, o.a⟩) (K1 := 41) (K2 := 41) (isQ_int h.1.1.1.1.1.1.1.1.2 h.1.2.1 (by decide)) (isQ_int h.1.1.1.1.1.1.1.1.2 h.1.2.1 (by decide)) (by decide)) (by kernel_rfl) (fun t => ?_)
    refine Good.run (by kernel_rfl) (stop := 1000) 1000 _ ?_
    refine Good.callv (fun w1 hw h => qsub_m h.1.2.q h.2.q (by decide)) (by kernel_rfl) (fun f => ?_)
    refine Good.run (by kernel_rfl) (stop := 1000) 1000 _ ?_
    refine Good.callv (fun w1 hw h => qcmp_m (a := ⟨l, o.a⟩) (K1 := 41) (isQ_int h.1.1.1.1.1.1.1.1.1.1.1.1.2 h.1.1.1.2.1 (by decide)) (ha.below hw) (by decide)) (by kernel_rfl) (fun u => ?_)
    refine Good.run (by kernel_rfl) (stop := 4) 1000 _ ?_
    refine Good.slot 63 (.bool (decide (cmpQ (q.floor : Rat) q ≤ 0))) (.bool true) (by kernel_rfl) (by rw [decide_eq_true c1]) ?_
    refine Good.run (by kernel_rfl) (stop := 1000) 1000 _ ?_
    refine Good.callv (fun w1 hw h => qcmp_m (a := ⟨g, o.a⟩) (K1 := 41) (isQ_int h.1.1.1.1.1.1.1.1.1.1.1.1.2 h.1.1.1.1.2.1 (by decide)) (ha.below hw) (by decide)) (by kernel_rfl) (fun u => ?_)
    refine Good.run (by kernel_rfl) (stop := 9) 1000 _ ?_
    refine Good.slot 68 (.bool (decide (cmpQ (q.ceil : Rat) q ≥ 0))) (.bool true) (by kernel_rfl) (by rw [decide_eq_true c2]) ?_
    refine Good.run (by kernel_rfl) (stop := 1000) 1000 _ ?_
    refine Good.callv (fun w1 hw h => qsub_m (a := ⟨g, o.a⟩) (b := ⟨l, o.a⟩) (K1 := 41) (K2 := 41) (isQ_int h.1.1.1.1.1.1.1.1.1.1.1.1.1.2 h.1.1.1.1.1.2.1 (by decide)) (isQ_int h.1.1.1.1.1.1.1.1.1.1.1.1.1.1.2 h.1.1.1.1.1.2.1 (by decide)) (by decide)) (by kernel_rfl) (fun d => ?_)
    refine Good.run (by kernel_rfl) (stop := 1000) 1000 _ ?_
    refine Good.callv (fun w1 hw h => qcmp_m h.2.q h.1.1.1.1.1.1.2.q (by decide)) (by kernel_rfl) (fun u => ?_)
    refine Good.run (by kernel_rfl) (stop := 17) 1000 _ ?_
    refine Good.slot 76 (.bool (decide (cmpQ ((q.ceil : Rat) - (q.floor : Rat)) ((1 : Int) : Rat) ≤ 0))) (.bool true) (by kernel_rfl) (by rw [show ((1 : Int) : Rat) = 1 from rfl, decide_eq_true c3]) ?_
    refine Good.run (by kernel_rfl) (stop := 1000) 1000 _ ?_
    refine Good.callv (fun w1 hw h => qcmp_m h.1.1.1.1.2.q h.1.1.1.1.1.1.1.2.q (by decide)) (by kernel_rfl) (fun u => ?_)
    refine Good.run (by kernel_rfl) (stop := 23) 1000 _ ?_
    refine Good.slot 82 (.bool (decide (cmpQ (q + q - ((rndQ q : Rat) + (rndQ q : Rat))) ((1 : Int) : Rat) ≤ 0))) (.bool true) (by kernel_rfl) (by rw [show ((1 : Int) : Rat) = 1 from rfl, decide_eq_true c4]) ?_
    refine Good.run (by kernel_rfl) (stop := 1000) 1000 _ ?_
    refine Good.callv (fun w1 hw h => qneg_m h.1.1.1.1.1.1.1.1.2.q (by decide)) (by kernel_rfl) (fun m => ?_)
    refine Good.run (by kernel_rfl) (stop := 1000) 1000 _ ?_
    refine Good.callv (fun w1 hw h => qcmp_m h.1.1.1.1.1.1.2.q h.2.q (by decide)) (by kernel_rfl) (fun u => ?_)
    refine Good.run (by kernel_rfl) (stop := 30) 1000 _ ?_
    refine Good.slot 89 (.bool (decide (cmpQ (q + q - ((rndQ q : Rat) + (rndQ q : Rat))) (-((1 : Int) : Rat)) ≥ 0))) (.bool true) (by kernel_rfl) (by rw [show ((1 : Int) : Rat) = 1 from rfl, decide_eq_true c5]) ?_
    refine Good.run (by kernel_rfl) (stop := 1000) 1000 _ ?_
    refine Good.callv (fun w1 hw h => qexample_m w1) (by kernel_rfl) (fun u => ?_)
    refine Good.run (by kernel_rfl) (stop := 1000) 1000 _ ?_
    refine Good.ret (v := .bool true) (by kernel_rfl) (fun w1 hw h => ⟨(), rfl, hw, fun _ _ _ => trivial⟩)
end

section
variable {a b c : RV} {p q r : Rat} {K K1 K2 K3 : Nat} {w : World}
set_option maxRecDepth 100000 in
set_option maxHeartbeats 1000000 in
theorem sumOf_m (ha : IsQ a p K1 w) (hb : IsQ b q K2 w) (hK : 2 ≤ K1 ∧ 2 ≤ K2 ∧ K1 + K2 ≤ 68719476000) :
    Calls Try.prog 39 #[a.val, b.val] w (CallPost w RV.val fun r w => IsQN r (p + q) (K1 + K2 + 1) w) := by
  refine Good.enter Try.func39 rfl ?_
  refine Good.run (by kernel_rfl) (stop := 1000) 1000 _ ?_
  refine Good.callv (fun w1 hw h => qadd_m (ha.below hw) (hb.below hw) hK) (by kernel_rfl) (fun s => ?_)
  refine Good.run (by kernel_rfl) (stop := 1000) 1000 _ ?_
  refine Good.ret (v := RV.val s) (by kernel_rfl) (fun w1 hw h => ⟨s, rfl, hw, fun w'' k1 k2 => (h w'' k1 k2).2⟩)
theorem qquo_e {e : Int} (he : (if q = 0 then 9 else 0) = e) (ha : IsQ a p K1 w) (hb : IsQ b q K2 w) (hK : 2 ≤ K1 ∧ 2 ≤ K2 ∧ K1 + K2 ≤ 68719476000) :
    Calls Try.prog 37 #[a.val, b.val] w (CallPost w (EVal e) fun r w => IsQuo r p q (K1 + K2) w) := by subst he; exact qquo_m ha hb hK
theorem IsQuo.n {r : RV} (h : IsQuo r p q K w) (hq : q ≠ 0) : IsQN r (p / q) K w := by unfold IsQuo at h; rw [if_neg hq] at h; exact h
theorem cmpQ_zero (p q : Rat) : (cmpQ p q == 0) = decide (p = q) := by
  unfold cmpQ
  by_cases h : p < q
  · rw [if_pos h, decide_eq_false (fun e => by rw [e] at h; exact Rat.lt_irrefl h)]; rfl
  · rw [if_neg h]
    by_cases e : p = q
    · rw [if_pos e, decide_eq_true e]; rfl
    · rw [if_neg e, decide_eq_false e]; rfl
theorem cmpQ_lt (p q : Rat) : decide (cmpQ p q < 0) = decide (p < q) := by
  unfold cmpQ
  by_cases h : p < q
  · rw [if_pos h, decide_eq_true h]; rfl
  · rw [if_neg h, decide_eq_false h]
    by_cases e : p = q
    · rw [if_pos e]; rfl
    · rw [if_neg e]; rfl
theorem cmpQ_ne (p q : Rat) : (cmpQ p q != 0) = !decide (p = q) := by rw [bne, cmpQ_zero]

set_option maxRecDepth 100000 in
set_option maxHeartbeats 4000000 in
theorem lawField {x y z t u v : Int} (h1 : IsI a.a x K1 w) (h2 : IsI a.b y K1 w) (h3 : IsI b.a z K2 w) (h4 : IsI b.b t K2 w) (h5 : IsI c.a u K3 w) (h6 : IsI c.b v K3 w) :
    Calls Try.prog 6 #[a.val, b.val, c.val] w (CallPost w (fun _ : Unit => .bool true) fun _ _ => True) := by
  cases hsa : smallB a
  case false =>
    refine Good.enter Try.func6 rfl ?_
    refine Good.run (by kernel_rfl) (stop := 1000) 1000 _ ?_
    refine Good.callv (fun w1 hw h => small_v hsa) (by kernel_rfl) (fun u => ?_)
    refine Good.run (by kernel_rfl) (stop := 1000) 1000 _ ?_
    refine Good.cond true (by kernel_rfl) ?_
    refine Good.run (by kernel_rfl) (stop := 1000) 1000 _ ?_
    refine Good.callv (fun w1 hw h => qexample_m w1) (by kernel_rfl) (fun u => ?_)
    refine Good.run (by kernel_rfl) (stop := 1000) 1000 _ ?_
    refine Good.ret (v := .bool true) (by kernel_rfl) (fun w1 hw h => ⟨(), rfl, hw, fun _ _ _ => trivial⟩)
  cases hsb : smallB b
  case false =>
    refine Good.enter Try.func6 rfl ?_
    refine Good.run (by kernel_rfl) (stop := 1000) 1000 _ ?_
    refine Good.callv (fun w1 hw h => small_v hsa) (by kernel_rfl) (fun u => ?_)
    refine Good.run (by kernel_rfl) (stop := 1000) 1000 _ ?_
    refine Good.callv (fun w1 hw h => small_v hsb) (by kernel_rfl) (fun u => ?_)
    refine Good.run (by kernel_rfl) (stop := 1000) 1000 _ ?_
    refine Good.cond true (by kernel_rfl) ?_
    refine Good.run (by kernel_rfl) (stop := 1000) 1000 _ ?_
    refine Good.callv (fun w1 hw h => qexample_m w1) (by kernel_rfl) (fun u => ?_)
    refine Good.run (by kernel_rfl) (stop := 1000) 1000 _ ?_
    refine Good.ret (v := .bool true) (by kernel_rfl) (fun w1 hw h => ⟨(), rfl, hw, fun _ _ _ => trivial⟩)
  cases hsc : smallB c
  case false =>
    refine Good.enter Try.func6 rfl ?_
    refine Good.run (by kernel_rfl) (stop := 1000) 1000 _ ?_
    refine Good.callv (fun w1 hw h => small_v hsa) (by kernel_rfl) (fun u => ?_)
    refine Good.run (by kernel_rfl) (stop := 1000) 1000 _ ?_
    refine Good.callv (fun w1 hw h => small_v hsb) (by kernel_rfl) (fun u => ?_)
    refine Good.run (by kernel_rfl) (stop := 1000) 1000 _ ?_
    refine Good.callv (fun w1 hw h => small_v hsc) (by kernel_rfl) (fun u => ?_)
    refine Good.run (by kernel_rfl) (stop := 1000) 1000 _ ?_
    refine Good.cond true (by kernel_rfl) ?_
    refine Good.run (by kernel_rfl) (stop := 1000) 1000 _ ?_
    refine Good.callv (fun w1 hw h => qexample_m w1) (by kernel_rfl) (fun u => ?_)
    refine Good.run (by kernel_rfl) (stop := 1000) 1000 _ ?_
    refine Good.ret (v := .bool true) (by kernel_rfl) (fun w1 hw h => ⟨(), rfl, hw, fun _ _ _ => trivial⟩)
  obtain ⟨p, ha⟩ : ∃ p, IsQ a p 40 w := by
    simp only [smallB, Bool.and_eq_true, decide_eq_true_eq] at hsa
    exact ⟨_, x, y, ⟨h1.inn, h1.zi, hsa.1⟩, ⟨h2.inn, h2.zi, hsa.2⟩, rfl⟩
  obtain ⟨q, hb⟩ : ∃ q, IsQ b q 40 w := by
    simp only [smallB, Bool.and_eq_true, decide_eq_true_eq] at hsb
    exact ⟨_, z, t, ⟨h3.inn, h3.zi, hsb.1⟩, ⟨h4.inn, h4.zi, hsb.2⟩, rfl⟩
  obtain ⟨r, hc⟩ : ∃ r, IsQ c r 40 w := by
    simp only [smallB, Bool.and_eq_true, decide_eq_true_eq] at hsc
    exact ⟨_, u, v, ⟨h5.inn, h5.zi, hsc.1⟩, ⟨h6.inn, h6.zi, hsc.2⟩, rfl⟩
  clear h1 h2 h3 h4 h5 h6
  have rest : ∀ e : Int, (if q = 0 then 9 else 0) = e → (q = 0 → e = 9) → (q ≠ 0 → e = 0) → Calls Try.prog 6 #[a.val, b.val, c.val] w (CallPost w (fun _ : Unit => .bool true) fun _ _ => True) := by
    intro e he he1 he2
    refine Good.enter Try.func6 rfl ?_
    refine Good.run (by kernel_rfl) (stop := 1000) 1000 _ ?_
    refine Good.callv (fun w1 hw h => small_v hsa) (by kernel_rfl) (fun u => ?_)
    refine Good.run (by kernel_rfl) (stop := 1000) 1000 _ ?_
    refine Good.callv (fun w1 hw h => small_v hsb) (by kernel_rfl) (fun u => ?_)
    refine Good.run (by kernel_rfl) (stop := 1000) 1000 _ ?_
    refine Good.callv (fun w1 hw h => small_v hsc) (by kernel_rfl) (fun u => ?_)
    refine Good.run (by kernel_rfl) (stop := 1000) 1000 _ ?_
    refine Good.cond false (by kernel_rfl) ?_
    refine Good.run (by kernel_rfl) (stop := 1000) 1000 _ ?_
    refine Good.callv (fun w1 hw h => qnormalize_m (ha.below hw) (by decide)) (by kernel_rfl) (fun x => ?_)
    refine Good.run (by kernel_rfl) (stop := 1000) 1000 _ ?_
    refine Good.callv (fun w1 hw h => qadd_m (ha.below hw) (hb.below hw) (by decide)) (by kernel_rfl) (fun s => ?_)
    refine Good.run (by kernel_rfl) (stop := 1000) 1000 _ ?_
    refine Good.callv (fun w1 hw h => qmul_m (ha.below hw) (hb.below hw) (by decide)) (by kernel_rfl) (fun m => ?_)
    refine Good.run (by kernel_rfl) (stop := 1000) 1000 _ ?_
    refine Good.callv (fun w1 hw h => qisn_n h.1.2 (by decide)) (by kernel_rfl) (fun u => ?_)
    refine Good.run (by kernel_rfl) (stop := 1000) 1000 _ ?_
    refine Good.callv (fun w1 hw h => qisn_n h.1.2 (by decide)) (by kernel_rfl) (fun u => ?_)
    refine Good.run (by kernel_rfl) (stop := 1000) 1000 _ ?_
    refine Good.callv (fun w1 hw h => qsub_m h.1.1.1.2.q (hb.below hw) (by decide)) (by kernel_rfl) (fun d => ?_)
    refine Good.run (by kernel_rfl) (stop := 1000) 1000 _ ?_
    refine Good.callv (fun w1 hw h => rsame_nn (B := true) h.2 h.1.1.1.1.1.2 (by rw [decide_eq_true (by grind)])) (by kernel_rfl) (fun u => ?_)
    refine Good.run (by kernel_rfl) (stop := 1000) 1000 _ ?_
    refine Good.callv (fun w1 hw h => qadd_m (hb.below hw) (ha.below hw) (by decide)) (by kernel_rfl) (fun d => ?_)
    refine Good.run (by kernel_rfl) (stop := 1000) 1000 _ ?_
    refine Good.callv (fun w1 hw h => rsame_nn (B := true) h.1.1.1.1.1.1.2 h.2 (by rw [decide_eq_true (by grind)])) (by kernel_rfl) (fun u => ?_)
    refine Good.run (by kernel_rfl) (stop := 1000) 1000 _ ?_
    refine Good.callv (fun w1 hw h => qmul_m (hb.below hw) (ha.below hw) (by decide)) (by kernel_rfl) (fun d => ?_)
    refine Good.run (by kernel_rfl) (stop := 1000) 1000 _ ?_
    refine Good.callv (fun w1 hw h => rsame_nn (B := true) h.1.1.1.1.1.1.1.2 h.2 (by rw [decide_eq_true (by grind)])) (by kernel_rfl) (fun u => ?_)
    refine Good.run (by kernel_rfl) (stop := 1000) 1000 _ ?_
    refine Good.cond false (by kernel_rfl) ?_
    refine Good.run (by kernel_rfl) (stop := 1000) 1000 _ ?_
    refine Good.callv (fun w1 hw h => qquo_e he h.1.1.1.1.1.1.1.1.2.q (hb.below hw) (by decide)) (by kernel_rfl) (fun Q => ?_)
    refine Good.run (by kernel_rfl) (stop := 1000) 1000 _ ?_
    refine Good.callv (fun w1 hw h => qcmp_m (b := RV0) (hb.below hw) (isQ0 w1) (by decide)) (by kernel_rfl) (fun u => ?_)
    refine Good.run (by kernel_rfl) (stop := 6) 1000 _ ?_
    have fin : ∀ {b1 b2 : Bool}, b1 = b2 → (b1 == b2) = true := fun e => by rw [e]; simp
    by_cases hq : q = 0
    · obtain rfl := he1 hq
      refine Good.slot 77 (.bool (cmpQ q 0 != 0)) (.bool false) (by kernel_rfl) (by rw [cmpQ_ne, decide_eq_true hq]; rfl) ?_
      refine Good.run (by kernel_rfl) (stop := 1000) 1000 _ ?_
      refine Good.cond false (by kernel_rfl) ?_
      refine Good.run (by kernel_rfl) (stop := 1000) 1000 _ ?_
      refine Good.callv (fun w1 hw h => qadd_m h.1.1.1.1.1.1.1.1.1.1.1.2.q (hc.below hw) (by decide)) (by kernel_rfl) (fun d => ?_)
      refine Good.run (by kernel_rfl) (stop := 1000) 1000 _ ?_
      refine Good.callv (fun w1 hw h => qadd_m (hb.below hw) (hc.below hw) (by decide)) (by kernel_rfl) (fun e => ?_)
      refine Good.run (by kernel_rfl) (stop := 1000) 1000 _ ?_
      refine Good.callv (fun w1 hw h => qadd_m (ha.below hw) h.2.q (by decide)) (by kernel_rfl) (fun f => ?_)
      refine Good.run (by kernel_rfl) (stop := 1000) 1000 _ ?_
      refine Good.callv (fun w1 hw h => rsame_nn (B := true) h.1.1.2 h.2 (by rw [decide_eq_true (by grind)])) (by kernel_rfl) (fun u => ?_)
      refine Good.run (by kernel_rfl) (stop := 1000) 1000 _ ?_
      refine Good.callv (fun w1 hw h => qmul_m h.1.1.1.1.1.1.1.1.1.1.1.1.1.1.2.q (hc.below hw) (by decide)) (by kernel_rfl) (fun d => ?_)
      refine Good.run (by kernel_rfl) (stop := 1000) 1000 _ ?_
      refine Good.callv (fun w1 hw h => qmul_m (hb.below hw) (hc.below hw) (by decide)) (by kernel_rfl) (fun e => ?_)
      refine Good.run (by kernel_rfl) (stop := 1000) 1000 _ ?_
      refine Good.callv (fun w1 hw h => qmul_m (ha.below hw) h.2.q (by decide)) (by kernel_rfl) (fun f => ?_)
      refine Good.run (by kernel_rfl) (stop := 1000) 1000 _ ?_
      refine Good.callv (fun w1 hw h => rsame_nn (B := true) h.1.1.2 h.2 (by rw [decide_eq_true (by grind)])) (by kernel_rfl) (fun u => ?_)
      refine Good.run (by kernel_rfl) (stop := 1000) 1000 _ ?_
      refine Good.cond false (by kernel_rfl) ?_
      refine Good.run (by kernel_rfl) (stop := 1000) 1000 _ ?_
      refine Good.callv (fun w1 hw h => qmul_m h.1.1.1.1.1.1.1.1.1.1.1.1.1.1.1.1.1.1.1.2.q (hc.below hw) (by decide)) (by kernel_rfl) (fun d => ?_)
      refine Good.run (by kernel_rfl) (stop := 1000) 1000 _ ?_
      refine Good.callv (fun w1 hw h => qmul_m (ha.below hw) (hc.below hw) (by decide)) (by kernel_rfl) (fun e => ?_)
      refine Good.run (by kernel_rfl) (stop := 1000) 1000 _ ?_
      refine Good.callv (fun w1 hw h => qmul_m (hb.below hw) (hc.below hw) (by decide)) (by kernel_rfl) (fun f => ?_)
      refine Good.run (by kernel_rfl) (stop := 1000) 1000 _ ?_
      refine Good.callv (fun w1 hw h => qadd_m h.1.2.q h.2.q (by decide)) (by kernel_rfl) (fun g => ?_)
      refine Good.run (by kernel_rfl) (stop := 1000) 1000 _ ?_
      refine Good.callv (fun w1 hw h => rsame_nn (B := true) h.1.1.1.2 h.2 (by rw [decide_eq_true (by grind)])) (by kernel_rfl) (fun u => ?_)
      refine Good.run (by kernel_rfl) (stop := 1000) 1000 _ ?_
      refine Good.cond false (by kernel_rfl) ?_
      refine Good.run (by kernel_rfl) (stop := 1000) 1000 _ ?_
      refine Good.callv (fun w1 hw h => qcmp_m (ha.below hw) (hb.below hw) (by decide)) (by kernel_rfl) (fun u => ?_)
      refine Good.run (by kernel_rfl) (stop := 1000) 1000 _ ?_
      refine Good.callv (fun w1 hw h => qnormalize_m (hb.below hw) (by decide)) (by kernel_rfl) (fun y => ?_)
      refine Good.run (by kernel_rfl) (stop := 1000) 1000 _ ?_
      refine Good.callv (fun w1 hw h => rsame_nn (B := decide (p = q)) h.1.1.1.1.1.1.1.1.1.1.1.1.1.1.1.1.1.1.1.1.1.1.1.1.1.1.1.2 h.2 rfl) (by kernel_rfl) (fun u => ?_)
      refine Good.run (by kernel_rfl) (stop := 9) 1000 _ ?_
      refine Good.slot 131 (.bool ((cmpQ p q == 0) == decide (p = q))) (.bool true) (by kernel_rfl) (by rw [fin (cmpQ_zero p q)]) ?_
      refine Good.run (by kernel_rfl) (stop := 1000) 1000 _ ?_
      refine Good.callv (fun w1 hw h => qcmp_m (ha.below hw) (hb.below hw) (by decide)) (by kernel_rfl) (fun u => ?_)
      refine Good.run (by kernel_rfl) (stop := 1000) 1000 _ ?_
      refine Good.callv (fun w1 hw h => qadd_m (ha.below hw) (hc.below hw) (by decide)) (by kernel_rfl) (fun d => ?_)
      refine Good.run (by kernel_rfl) (stop := 1000) 1000 _ ?_
      refine Good.callv (fun w1 hw h => sumOf_m (hb.below hw) (hc.below hw) (by decide)) (by kernel_rfl) (fun e => ?_)
      refine Good.run (by kernel_rfl) (stop := 1000) 1000 _ ?_
      refine Good.callv (fun w1 hw h => qcmp_m h.1.2.q h.2.q (by decide)) (by kernel_rfl) (fun u => ?_)
      refine Good.run (by kernel_rfl) (stop := 23) 1000 _ ?_
      refine Good.slot 145 (.bool (decide (cmpQ p q < 0) == decide (cmpQ (p + r) (q + r) < 0))) (.bool true) (by kernel_rfl) (by rw [fin (by rw [cmpQ_lt, cmpQ_lt]; exact decide_eq_decide.2 (by grind))]) ?_
      refine Good.run (by kernel_rfl) (stop := 1000) 1000 _ ?_
      refine Good.callv (fun w1 hw h => qexample_m w1) (by kernel_rfl) (fun u => ?_)
      refine Good.run (by kernel_rfl) (stop := 1000) 1000 _ ?_
      refine Good.ret (v := .bool true) (by kernel_rfl) (fun w1 hw h => ⟨(), rfl, hw, fun _ _ _ => trivial⟩)
    · obtain rfl := he2 hq
      refine Good.slot 77 (.bool (cmpQ q 0 != 0)) (.bool true) (by kernel_rfl) (by rw [cmpQ_ne, decide_eq_false hq]; rfl) ?_
      refine Good.run (by kernel_rfl) (stop := 1000) 1000 _ ?_
      refine Good.callv (fun w1 hw h => rsame_nn (B := true) (h.1.2.n hq) h.1.1.1.1.1.1.1.1.1.1.1.1.2 (by rw [decide_eq_true (by grind)])) (by kernel_rfl) (fun u => ?_)
      refine Good.run (by kernel_rfl) (stop := 1000) 1000 _ ?_
      refine Good.cond false (by kernel_rfl) ?_
      refine Good.run (by kernel_rfl) (stop := 1000) 1000 _ ?_
      refine Good.callv (fun w1 hw h => qadd_m h.1.1.1.1.1.1.1.1.1.1.1.1.2.q (hc.below hw) (by decide)) (by kernel_rfl) (fun d => ?_)
      refine Good.run (by kernel_rfl) (stop := 1000) 1000 _ ?_
      refine Good.callv (fun w1 hw h => qadd_m (hb.below hw) (hc.below hw) (by decide)) (by kernel_rfl) (fun e => ?_)
      refine Good.run (by kernel_rfl) (stop := 1000) 1000 _ ?_
      refine Good.callv (fun w1 hw h => qadd_m (ha.below hw) h.2.q (by decide)) (by kernel_rfl) (fun f => ?_)
      refine Good.run (by kernel_rfl) (stop := 1000) 1000 _ ?_
      refine Good.callv (fun w1 hw h => rsame_nn (B := true) h.1.1.2 h.2 (by rw [decide_eq_true (by grind)])) (by kernel_rfl) (fun u => ?_)
      refine Good.run (by kernel_rfl) (stop := 1000) 1000 _ ?_
      refine Good.callv (fun w1 hw h => qmul_m h.1.1.1.1.1.1.1.1.1.1.1.1.1.1.1.2.q (hc.below hw) (by decide)) (by kernel_rfl) (fun d => ?_)
      refine Good.run (by kernel_rfl) (stop := 1000) 1000 _ ?_
      refine Good.callv (fun w1 hw h => qmul_m (hb.below hw) (hc.below hw) (by decide)) (by kernel_rfl) (fun e => ?_)
      refine Good.run (by kernel_rfl) (stop := 1000) 1000 _ ?_
      refine Good.callv (fun w1 hw h => qmul_m (ha.below hw) h.2.q (by decide)) (by kernel_rfl) (fun f => ?_)
      refine Good.run (by kernel_rfl) (stop := 1000) 1000 _ ?_
      refine Good.callv (fun w1 hw h => rsame_nn (B := true) h.1.1.2 h.2 (by rw [decide_eq_true (by grind)])) (by kernel_rfl) (fun u => ?_)
      refine Good.run (by kernel_rfl) (stop := 1000) 1000 _ ?_
      refine Good.cond false (by kernel_rfl) ?_
      refine Good.run (by kernel_rfl) (stop := 1000) 1000 _ ?_
      refine Good.callv (fun w1 hw h => qmul_m h.1.1.1.1.1.1.1.1.1.1.1.1.1.1.1.1.1.1.1.1.2.q (hc.below hw) (by decide)) (by kernel_rfl) (fun d => ?_)
      refine Good.run (by kernel_rfl) (stop := 1000) 1000 _ ?_
      refine Good.callv (fun w1 hw h => qmul_m (ha.below hw) (hc.below hw) (by decide)) (by kernel_rfl) (fun e => ?_)
      refine Good.run (by kernel_rfl) (stop := 1000) 1000 _ ?_
      refine Good.callv (fun w1 hw h => qmul_m (hb.below hw) (hc.below hw) (by decide)) (by kernel_rfl) (fun f => ?_)
      refine Good.run (by kernel_rfl) (stop := 1000) 1000 _ ?_
      refine Good.callv (fun w1 hw h => qadd_m h.1.2.q h.2.q (by decide)) (by kernel_rfl) (fun g => ?_)
      refine Good.run (by kernel_rfl) (stop := 1000) 1000 _ ?_
      refine Good.callv (fun w1 hw h => rsame_nn (B := true) h.1.1.1.2 h.2 (by rw [decide_eq_true (by grind)])) (by kernel_rfl) (fun u => ?_)
      refine Good.run (by kernel_rfl) (stop := 1000) 1000 _ ?_
      refine Good.cond false (by kernel_rfl) ?_
      refine Good.run (by kernel_rfl) (stop := 1000) 1000 _ ?_
      refine Good.callv (fun w1 hw h => qcmp_m (ha.below hw) (hb.below hw) (by decide)) (by kernel_rfl) (fun u => ?_)
      refine Good.run (by kernel_rfl) (stop := 1000) 1000 _ ?_
      refine Good.callv (fun w1 hw h => qnormalize_m (hb.below hw) (by decide)) (by kernel_rfl) (fun y => ?_)
      refine Good.run (by kernel_rfl) (stop := 1000) 1000 _ ?_
      refine Good.callv (fun w1 hw h => rsame_nn (B := decide (p = q)) h.1.1.1.1.1.1.1.1.1.1.1.1.1.1.1.1.1.1.1.1.1.1.1.1.1.1.1.1.2 h.2 rfl) (by kernel_rfl) (fun u => ?_)
      refine Good.run (by kernel_rfl) (stop := 9) 1000 _ ?_
      refine Good.slot 131 (.bool ((cmpQ p q == 0) == decide (p = q))) (.bool true) (by kernel_rfl) (by rw [fin (cmpQ_zero p q)]) ?_
      refine Good.run (by kernel_rfl) (stop := 1000) 1000 _ ?_
      refine Good.callv (fun w1 hw h => qcmp_m (ha.below hw) (hb.below hw) (by decide)) (by kernel_rfl) (fun u => ?_)
      refine Good.run (by kernel_rfl) (stop := 1000) 1000 _ ?_
      refine Good.callv (fun w1 hw h => qadd_m (ha.below hw) (hc.below hw) (by decide)) (by kernel_rfl) (fun d => ?_)
      refine Good.run (by kernel_rfl) (stop := 1000) 1000 _ ?_
      refine Good.callv (fun w1 hw h => sumOf_m (hb.below hw) (hc.below hw) (by decide)) (by kernel_rfl) (fun e => ?_)
      refine Good.run (by kernel_rfl) (stop := 1000) 1000 _ ?_
      refine Good.callv (fun w1 hw h => qcmp_m h.1.2.q h.2.q (by decide)) (by kernel_rfl) (fun u => ?_)
      refine Good.run (by kernel_rfl) (stop := 23) 1000 _ ?_
      refine Good.slot 145 (.bool (decide (cmpQ p q < 0) == decide (cmpQ (p + r) (q + r) < 0))) (.bool true) (by kernel_rfl) (by rw [fin (by rw [cmpQ_lt, cmpQ_lt]; exact decide_eq_decide.2 (by grind))]) ?_
      refine Good.run (by kernel_rfl) (stop := 1000) 1000 _ ?_
      refine Good.callv (fun w1 hw h => qexample_m w1) (by kernel_rfl) (fun u => ?_)
      refine Good.run (by kernel_rfl) (stop := 1000) 1000 _ ?_
      refine Good.ret (v := .bool true) (by kernel_rfl) (fun w1 hw h => ⟨(), rfl, hw, fun _ _ _ => trivial⟩)
  by_cases hq : q = 0
  · exact rest 9 (by rw [if_pos hq]) (fun _ => rfl) (fun h => absurd hq h)
  · exact rest 0 (by rw [if_neg hq]) (fun h => absurd h hq) (fun _ => rfl)
end

end Go.Proofs.Ytjdcolaefhheaaa
