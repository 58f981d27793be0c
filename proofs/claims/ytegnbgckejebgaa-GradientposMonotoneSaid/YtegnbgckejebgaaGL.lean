/-
  Positions along gradients: the laws.
-/
import Derived.Test.YtegnbgckejebgaaGP
import Derived.Test.YtegnbgckejebgaaRx
namespace Go.Proofs.Ytegnbgckejebgaa
set_option linter.unusedVariables false
set_option linter.unusedSimpArgs false
open Go.RowKit

def shPt : Sh := .cons 1 (.int .i64) (.cons 1 (.int .i64) .nil)
def shRat : Sh := .cons 2 (.cons 1 .bool (.cons 1 .dig .nil)) (.cons 2 (.cons 1 .bool (.cons 1 .dig .nil)) .nil)
section
variable {w : World} {cs : List Value} {n : Nat} {s r : Sh} {k : IntKind}
theorem rd_int (h : Rd w (.cons n (.int k) r) cs) : ∃ z t, cs = .int k z :: t ∧ (Lit.int k z).wf = true ∧ Rd w r t := by
  obtain ⟨a, b, rfl, _, ⟨z, rfl, hz⟩, hb⟩ := h
  exact ⟨z, b, rfl, hz, hb⟩
theorem rd_pt (h : Rd w shPt cs) : ∃ X Y, cs = [.int .i64 X, .int .i64 Y] ∧ (-9223372036854775808 ≤ X ∧ X ≤ 9223372036854775807) ∧ (-9223372036854775808 ≤ Y ∧ Y ≤ 9223372036854775807) := by
  obtain ⟨X, t, rfl, hX, h⟩ := rd_int h
  obtain ⟨Y, t, rfl, hY, h⟩ := rd_int h
  obtain rfl : t = [] := h
  exact ⟨X, Y, rfl, i64_wf hX, i64_wf hY⟩
theorem rd_rat (h : Rd w shRat cs) : ∃ r : RV, cs = r.cl ∧ In w r.a.A r.a.n r.a.c r.a.l ∧ In w r.b.A r.b.n r.b.c r.b.l := by
  obtain ⟨a, b, rfl, _, h1, c, d, rfl, _, h2, rfl⟩ := h
  obtain ⟨a1, b1, rfl, _, ⟨s1, rfl⟩, a2, b2, rfl, _, ⟨A1, n1, c1, l1, rfl, i1⟩, rfl⟩ := h1
  obtain ⟨a3, b3, rfl, _, ⟨s2, rfl⟩, a4, b4, rfl, _, ⟨A2, n2, c2, l2, rfl, i2⟩, rfl⟩ := h2
  exact ⟨⟨⟨s1, A1, n1, c1, l1⟩, ⟨s2, A2, n2, c2, l2⟩⟩, rfl, i1, i2⟩
end
theorem BoxAt.mid {w : World} {g : Nat} {a b : List Value} (h : BoxAt w g (a ++ b)) : w.rangeAt g a.length b := by
  obtain ⟨t, h⟩ := h
  intro j v hv
  simp only [World.cell?, h, Option.isSome_none, Bool.false_eq_true, if_false]
  rw [List.getElem?_toArray, List.getElem?_append_right (by omega), Nat.add_sub_cancel_left]
  exact hv
theorem BoxAt.fst {w : World} {g : Nat} {a b : List Value} (h : BoxAt w g (a ++ b)) : w.rangeAt g 0 a := by
  obtain ⟨t, h⟩ := h
  intro j v hv
  simp only [World.cell?, h, Option.isSome_none, Bool.false_eq_true, if_false, Nat.zero_add]
  rw [List.getElem?_toArray, List.getElem?_append_left (List.getElem?_eq_some_iff.1 hv).1]
  exact hv

/-- A row of fractions. -/
structure RowC (w : World) (A : Option Addr) (n : Nat) (L : List RV) : Prop where
  len : L.length = n
  cells : ∀ (k : Nat) (r : RV), L[k]? = some r → ∃ ad : Addr, A = some ad ∧ ∀ (j : Nat) (v : Value), r.cl[j]? = some v → w.cell? ((ad.add (k * 4)).add j) = some v
def fewR (r : RV) : Bool := decide (r.a.n ≤ 20) && decide (r.b.n ≤ 20)
theorem row2 {w : World} {g : Nat} {r s : RV} (h : BoxAt w g (r.cl ++ s.cl)) : RowC w (some ⟨g, 0, none⟩) 2 [r, s] := by
  refine ⟨rfl, fun k x hk => ⟨_, rfl, fun j v hv => ?_⟩⟩
  match k, hk with
  | 0, hk =>
    obtain rfl : r = x := by simpa using hk
    have := h.fst j v hv
    simpa [Addr.add_mid] using this
  | 1, hk =>
    obtain rfl : s = x := by simpa using hk
    have := h.mid j v hv
    rw [show r.cl.length = 4 from rfl] at this
    simpa [Addr.add_mid] using this
section
variable {w : World} {X Y U V Z x y : Int} {p q : Rat} {a b : SV} {r s : RV}
set_option maxRecDepth 100000 in
set_option maxHeartbeats 1000000 in
theorem few_m {A : Option Addr} {n c : Nat} {L : List RV} (h : RowC w A n L) (hn : n ≤ 1000000) : Calls Try.prog 9 #[.slice A n c] w (CallPost w (fun _ : Unit => .bool (L.all fewR)) fun _ _ => True) := by
  refine Good.enter Try.func9 rfl ?_
  refine Good.run (by kernel_rfl) (stop := 1000) 1000 _ ?_
  refine Good.loop (ι := {k : Nat // k ≤ n ∧ (L.take k).all fewR = true}) 24 (fun i => ⟨[(5, .v (.slice A n c)), (6, .v (.int .i64 n)), (7, .v (.int .i64 i.1))], []⟩) (fun _ _ => True) (fun i => n - i.1) (⟨0, by omega, rfl⟩) (by kernel_rfl) (fun _ => by kernel_rfl) ⟨by kernel_rfl, by kernel_rfl, by kernel_rfl⟩ (fun _ _ => trivial) ?_
  rintro ⟨k, hk, hall⟩ gg
  by_cases hlt : k < n
  ·
    refine Good.run (by kernel_rfl) (stop := 1000) 1000 _ ?_
    refine Good.condr (decide ((k : Int) < (n : Int))) true (by kernel_rfl) (by simp; omega) ?_
    refine Good.run (by kernel_rfl) (stop := 1000) 1000 _ ?_
    obtain ⟨x, hx⟩ : ∃ x, L[k]? = some x := ⟨_, List.getElem?_eq_getElem (by rw [h.len]; exact hlt)⟩
    obtain ⟨ad, hA, hcells⟩ := h.cells k x hx
    have hbad : fewR x = false → L.all fewR = false := fun e => by
      rw [List.all_eq_false]
      exact ⟨x, List.mem_of_getElem? hx, by rw [e]; simp⟩
    refine Good.ask (idxS 32 (.slice A n c) k) (.pointer (some (ad.add (k * 4)))) (by kernel_rfl) (fun w1 hw h => by rw [hA]; exact run_idxA (elem := 29) (by kernel_rfl) (by kernel_rfl) hlt) ?_
    refine Good.run (by kernel_rfl) (stop := 1000) 1000 _ ?_
    refine Good.ask (ldS 29 (ad.add (k * 4))) (x.val) (by kernel_rfl) (fun w1 hw h => run_ldA (vs := x.cl) (by kernel_rfl) (by kernel_rfl) (fun j v hv => keepc hw (hcells j v hv))) ?_
    refine Good.run (by kernel_rfl) (stop := 6) 1000 _ ?_
    refine Good.fork 16 (decide ((x.a.n : Int) > 20)) (by kernel_rfl) (fun hc => ?_) (fun hc => ?_)
    ·
      refine Good.runC (by kernel_rfl) (stop := 1000) 6000 _ ?_
      refine Good.leave (by kernel_rfl) ?_
      refine Good.run (by kernel_rfl) (stop := 1000) 1000 _ ?_
      have h1 := of_decide_eq_true hc
      refine Good.ret (v := .bool false) (by kernel_rfl) (fun w1 hw h => ⟨(), by rw [hbad (by unfold fewR; rw [decide_eq_false (by omega)]; rfl)], hw, fun _ _ _ => trivial⟩)
    have h1 := of_decide_eq_false hc
    clear hc
    refine Good.run (by kernel_rfl) (stop := 1000) 1000 _ ?_
    refine Good.both (decide ((x.b.n : Int) > 20)) (by kernel_rfl) (fun hc => ?_) (fun hc => ?_)
    ·
      refine Good.runC (by kernel_rfl) (stop := 1000) 6000 _ ?_
      refine Good.leave (by kernel_rfl) ?_
      refine Good.run (by kernel_rfl) (stop := 1000) 1000 _ ?_
      have h2 := of_decide_eq_true hc
      refine Good.ret (v := .bool false) (by kernel_rfl) (fun w1 hw h => ⟨(), by rw [hbad (by unfold fewR; rw [decide_eq_false (show ¬ x.b.n ≤ 20 by omega)]; simp)], hw, fun _ _ _ => trivial⟩)
    have h2 := of_decide_eq_false hc
    clear hc
    refine Good.run (by kernel_rfl) (stop := 1000) 1000 _ ?_
    refine Good.slot 7 (.int .i64 (IntKind.i64.wrap ((k : Int) + 1))) (.int .i64 ((k + 1 : Nat) : Int)) (by kernel_rfl) (by rw [wrap_succ hlt (by omega)]) ?_
    refine Good.next (⟨k + 1, by omega, by rw [List.take_add_one, hx, List.all_append, hall]; simp [fewR]; omega⟩) (by kernel_rfl) (by show n - (k + 1) < n - k; omega) ⟨by kernel_rfl, by kernel_rfl, by kernel_rfl⟩ (fun _ _ => trivial)
  ·
    refine Good.run (by kernel_rfl) (stop := 1000) 1000 _ ?_
    refine Good.condr (decide ((k : Int) < (n : Int))) false (by kernel_rfl) (by simp at hlt ⊢; omega) ?_
    refine Good.run (by kernel_rfl) (stop := 1000) 1000 _ ?_
    refine Good.leave (by kernel_rfl) ?_
    refine Good.run (by kernel_rfl) (stop := 1000) 1000 _ ?_
    have hkn : k = n := by omega
    have hL : L.all fewR = true := by rw [hkn, List.take_of_length_le (by rw [h.len]; omega)] at hall; exact hall
    refine Good.ret (v := .bool true) (by kernel_rfl) (fun w1 hw h => ⟨(), by rw [hL], hw, fun _ _ _ => trivial⟩)
theorem linear_v {v : Int} (hv : linV X Y U V p q = v) (h1 : IsQ r p 30 w) (h2 : IsQ s q 30 w) : Calls Try.prog 11 #[pt X Y, pt U V, r.val, s.val] w (CallPost w (fun _ : Unit => .int .i64 v) fun _ _ => True) := by
  subst hv; exact linear_m clampOk h1 h2
theorem radial_v {v : Int} (hr : -9223372036854775808 ≤ Z ∧ Z ≤ 9223372036854775807) (hv : radV X Y Z p q = v) (h1 : IsQ r p 30 w) (h2 : IsQ s q 30 w) : Calls Try.prog 13 #[pt X Y, .int .i64 Z, r.val, s.val] w (CallPost w (fun _ : Unit => .int .i64 v) fun _ _ => True) := by
  subst hv; exact radial_m clampOk hr h1 h2
theorem clampPos_v {v : Int} {K : Nat} (hv : clampI x = v) (h : IsI a x K w) (hK : K ≤ 1000000) : Calls Try.prog 15 #[a.val] w (CallPost w (fun _ : Unit => .int .i64 v) fun _ _ => True) := by
  subst hv; exact clampPos_m h hK
theorem ex1 : linV 0 0 4 0 ((1 : Int) : Rat) ((7 : Int) : Rat) = 16384 := by decide +kernel
theorem ex2 : radV 0 0 5 ((3 : Int) : Rat) ((4 : Int) : Rat) = 65536 := by
  unfold radV
  have e : (radF 0 0 5 ((3 : Int) : Rat) ((4 : Int) : Rat)).floor.natAbs = 4294967296 := by decide +kernel
  rw [e, isqrt_eq (r := 65536) (⟨by decide, by decide⟩)]
  decide
theorem ex3 : linV 0 0 0 0 ((1 : Int) : Rat) ((7 : Int) : Rat) = 65536 := by decide +kernel
theorem ex4 : linV 0 0 1 0 ((-1099511627776 : Int) : Rat) ((0 : Int) : Rat) = -1099511627776 := by decide +kernel
set_option maxRecDepth 100000 in
set_option maxHeartbeats 1000000 in
theorem gexample_m (w : World) : Calls Try.prog 10 #[] w (CallPost w (fun _ : Unit => .bool true) fun _ _ => True) := by
  refine Good.enter Try.func10 rfl ?_
  refine Good.run (by kernel_rfl) (stop := 1000) 1000 _ ?_
  refine Good.callv (fun w1 hw h => rqfromInt_m 1 w1 (by decide) (by decide)) (by kernel_rfl) (fun a => ?_)
  refine Good.run (by kernel_rfl) (stop := 1000) 1000 _ ?_
  refine Good.callv (fun w1 hw h => rqfromInt_m 7 w1 (by decide) (by decide)) (by kernel_rfl) (fun b => ?_)
  refine Good.run (by kernel_rfl) (stop := 1000) 1000 _ ?_
  refine Good.callv (fun w1 hw h => linear_v ex1 (h.1.2.q.mono (by decide)) (h.2.q.mono (by decide))) (by kernel_rfl) (fun u => ?_)
  refine Good.run (by kernel_rfl) (stop := 1000) 1000 _ ?_
  refine Good.callv (fun w1 hw h => rqfromInt_m 3 w1 (by decide) (by decide)) (by kernel_rfl) (fun c => ?_)
  refine Good.run (by kernel_rfl) (stop := 1000) 1000 _ ?_
  refine Good.callv (fun w1 hw h => rqfromInt_m 4 w1 (by decide) (by decide)) (by kernel_rfl) (fun d => ?_)
  refine Good.run (by kernel_rfl) (stop := 1000) 1000 _ ?_
  refine Good.callv (fun w1 hw h => radial_v (by decide) ex2 (h.1.2.q.mono (by decide)) (h.2.q.mono (by decide))) (by kernel_rfl) (fun u => ?_)
  refine Good.run (by kernel_rfl) (stop := 1000) 1000 _ ?_
  refine Good.callv (fun w1 hw h => rqfromInt_m 1 w1 (by decide) (by decide)) (by kernel_rfl) (fun e => ?_)
  refine Good.run (by kernel_rfl) (stop := 1000) 1000 _ ?_
  refine Good.callv (fun w1 hw h => rqfromInt_m 7 w1 (by decide) (by decide)) (by kernel_rfl) (fun f => ?_)
  refine Good.run (by kernel_rfl) (stop := 1000) 1000 _ ?_
  refine Good.callv (fun w1 hw h => linear_v ex3 (h.1.2.q.mono (by decide)) (h.2.q.mono (by decide))) (by kernel_rfl) (fun u => ?_)
  refine Good.run (by kernel_rfl) (stop := 1000) 1000 _ ?_
  refine Good.callv (fun w1 hw h => rfromInt_m 4611686018427387904 w1 (by decide) (by decide)) (by kernel_rfl) (fun g => ?_)
  refine Good.run (by kernel_rfl) (stop := 1000) 1000 _ ?_
  refine Good.callv (fun w1 hw h => clampPos_v (v := 1099511627776) (by decide) h.2.i (by decide)) (by kernel_rfl) (fun u => ?_)
  refine Good.run (by kernel_rfl) (stop := 1000) 1000 _ ?_
  refine Good.callv (fun w1 hw h => rfromInt_m (-7) w1 (by decide) (by decide)) (by kernel_rfl) (fun k => ?_)
  refine Good.run (by kernel_rfl) (stop := 1000) 1000 _ ?_
  refine Good.callv (fun w1 hw h => clampPos_v (v := -7) (by decide) h.2.i (by decide)) (by kernel_rfl) (fun u => ?_)
  refine Good.run (by kernel_rfl) (stop := 1000) 1000 _ ?_
  refine Good.callv (fun w1 hw h => rqfromInt_m (-1099511627776) w1 (by decide) (by decide)) (by kernel_rfl) (fun l => ?_)
  refine Good.run (by kernel_rfl) (stop := 1000) 1000 _ ?_
  refine Good.callv (fun w1 hw h => rqfromInt_m 0 w1 (by decide) (by decide)) (by kernel_rfl) (fun m => ?_)
  refine Good.run (by kernel_rfl) (stop := 1000) 1000 _ ?_
  refine Good.callv (fun w1 hw h => linear_v ex4 (h.1.2.q.mono (by decide)) (h.2.q.mono (by decide))) (by kernel_rfl) (fun u => ?_)
  refine Good.run (by kernel_rfl) (stop := 1000) 1000 _ ?_
  refine Good.ret (v := .bool true) (by kernel_rfl) (fun w1 hw h => ⟨(), rfl, hw, fun _ _ _ => trivial⟩)
theorem clampI_mono (h : x ≤ y) : clampI x ≤ clampI y := by
  unfold clampI
  repeat' split
  all_goals omega
theorem clampI_bd : -1099511627776 ≤ clampI x ∧ clampI x ≤ 1099511627776 := by
  unfold clampI
  repeat' split
  all_goals omega
set_option maxRecDepth 100000 in
set_option maxHeartbeats 2000000 in
theorem lawClamp (ha : In w a.A a.n a.c a.l) (hb : In w b.A b.n b.c b.l) :
    Calls Try.prog 5 #[a.val, b.val] w (CallPost w (fun _ : Unit => .bool true) fun _ _ => True) := by
  refine Good.enter Try.func5 rfl ?_
  refine Good.run (by kernel_rfl) (stop := 5) 1000 _ ?_
  refine Good.fork 11 (decide ((a.n : Int) > 60)) (by kernel_rfl) (fun hc => ?_) (fun hc => ?_)
  ·
    refine Good.runC (by kernel_rfl) (stop := 1000) 6000 _ ?_
    refine Good.callv (fun w1 hw h => gexample_m w1) (by kernel_rfl) (fun u => ?_)
    refine Good.run (by kernel_rfl) (stop := 1000) 1000 _ ?_
    refine Good.ret (v := .bool true) (by kernel_rfl) (fun w1 hw h => ⟨(), rfl, hw, fun _ _ _ => trivial⟩)
  have ia := of_in (v := a) (K := 60) ha (by have := of_decide_eq_false hc; omega)
  clear hc
  refine Good.run (by kernel_rfl) (stop := 1000) 1000 _ ?_
  refine Good.both (decide ((b.n : Int) > 60)) (by kernel_rfl) (fun hc => ?_) (fun hc => ?_)
  ·
    refine Good.runC (by kernel_rfl) (stop := 1000) 6000 _ ?_
    refine Good.callv (fun w1 hw h => gexample_m w1) (by kernel_rfl) (fun u => ?_)
    refine Good.run (by kernel_rfl) (stop := 1000) 1000 _ ?_
    refine Good.ret (v := .bool true) (by kernel_rfl) (fun w1 hw h => ⟨(), rfl, hw, fun _ _ _ => trivial⟩)
  have ib := of_in (v := b) (K := 60) hb (by have := of_decide_eq_false hc; omega)
  clear hc
  generalize zi a.s (val a.l) = x at ia
  generalize zi b.s (val b.l) = y at ib
  refine Good.run (by kernel_rfl) (stop := 1000) 1000 _ ?_
  refine Good.callv (fun w1 hw h => clampPos_m (ia.below hw) (by decide)) (by kernel_rfl) (fun u => ?_)
  refine Good.run (by kernel_rfl) (stop := 1000) 1000 _ ?_
  refine Good.callv (fun w1 hw h => clampPos_m (ib.below hw) (by decide)) (by kernel_rfl) (fun u => ?_)
  refine Good.run (by kernel_rfl) (stop := 1000) 1000 _ ?_
  refine Good.callv (fun w1 hw h => rclamp_m (fun u hu hx => rfit hu (by decide) hx) (ia.below hw) (by decide)) (by kernel_rfl) (fun u => ?_)
  refine Good.run (by kernel_rfl) (stop := 4) 1000 _ ?_
  refine Good.slot 25 (.bool (clampI x == clampI x)) (.bool true) (by kernel_rfl) (by simp) ?_
  refine Good.run (by kernel_rfl) (stop := 1000) 1000 _ ?_
  refine Good.callv (fun w1 hw h => rclamp_m (fun u hu hx => rfit hu (by decide) hx) (ib.below hw) (by decide)) (by kernel_rfl) (fun u => ?_)
  refine Good.run (by kernel_rfl) (stop := 9) 1000 _ ?_
  refine Good.slot 30 (.bool (clampI y == clampI y)) (.bool true) (by kernel_rfl) (by simp) ?_
  refine Good.run (by kernel_rfl) (stop := 1000) 1000 _ ?_
  refine Good.callv (fun w1 hw h => rcmp_m (ia.below hw) (ib.below hw) (by decide)) (by kernel_rfl) (fun u => ?_)
  refine Good.run (by kernel_rfl) (stop := 15) 1000 _ ?_
  have hcm : decide (sgn (x - y) > 0) = false → decide (clampI x ≤ clampI y) = true := fun e => by
    rw [decide_eq_true (clampI_mono _)]
    have := of_decide_eq_false e
    unfold sgn at this
    split at this
    · omega
    · split at this <;> omega
  have hmx : decide ((if IntKind.i64.wrap (0 - clampI x) > clampI x then IntKind.i64.wrap (0 - clampI x) else clampI x) ≤ 1099511627776) = true := by
    have := clampI_bd (x := x)
    rw [IntWalk.i64_in _ (by omega), decide_eq_true]
    split <;> omega
  refine Good.fork 36 (decide (sgn (x - y) > 0)) (by kernel_rfl) (fun hc => ?_) (fun hc => ?_)
  ·
    refine Good.run (by kernel_rfl) (stop := 27) 1000 _ ?_
    refine Good.slot 48 (.bool (decide ((if IntKind.i64.wrap (0 - clampI x) > clampI x then IntKind.i64.wrap (0 - clampI x) else clampI x) ≤ 1099511627776))) (.bool true) (by kernel_rfl) (by rw [hmx]) ?_
    refine Good.run (by kernel_rfl) (stop := 1000) 1000 _ ?_
    refine Good.callv (fun w1 hw h => gexample_m w1) (by kernel_rfl) (fun u => ?_)
    refine Good.run (by kernel_rfl) (stop := 1000) 1000 _ ?_
    refine Good.ret (v := .bool true) (by kernel_rfl) (fun w1 hw h => ⟨(), rfl, hw, fun _ _ _ => trivial⟩)
  ·
    refine Good.run (by kernel_rfl) (stop := 19) 1000 _ ?_
    refine Good.slot 40 (.bool (decide (clampI x ≤ clampI y))) (.bool true) (by kernel_rfl) (by rw [hcm hc]) ?_
    refine Good.run (by kernel_rfl) (stop := 27) 1000 _ ?_
    refine Good.slot 48 (.bool (decide ((if IntKind.i64.wrap (0 - clampI x) > clampI x then IntKind.i64.wrap (0 - clampI x) else clampI x) ≤ 1099511627776))) (.bool true) (by kernel_rfl) (by rw [hmx]) ?_
    refine Good.run (by kernel_rfl) (stop := 1000) 1000 _ ?_
    refine Good.callv (fun w1 hw h => gexample_m w1) (by kernel_rfl) (fun u => ?_)
    refine Good.run (by kernel_rfl) (stop := 1000) 1000 _ ?_
    refine Good.ret (v := .bool true) (by kernel_rfl) (fun w1 hw h => ⟨(), rfl, hw, fun _ _ _ => trivial⟩)
end

theorem linF_shift {X Y U V a b : Int} {p q : Rat} : linF (X + a) (Y + b) (U + a) (V + b) (p + (a : Rat)) (q + (b : Rat)) = linF X Y U V p q := by
  unfold linF
  rw [show U + a - (X + a) = U - X by omega, show V + b - (Y + b) = V - Y by omega, Rat.intCast_add, Rat.intCast_add]
  rw [show p + (a : Rat) - ((X : Rat) + a) = p - X by grind, show q + (b : Rat) - ((Y : Rat) + b) = q - Y by grind]
theorem radF_shift {X Y r a b : Int} {p q : Rat} : radF (X + a) (Y + b) r (p + (a : Rat)) (q + (b : Rat)) = radF X Y r p q := by
  unfold radF
  rw [Rat.intCast_add, Rat.intCast_add, show p + (a : Rat) - ((X : Rat) + a) = p - X by grind, show q + (b : Rat) - ((Y : Rat) + b) = q - Y by grind]
theorem linF_on {X Y U V n m : Int} {f p q : Rat} (hf : f * 4 = (n : Rat)) (hD : ((U - X : Int) : Rat) * ((U - X : Int) : Rat) + ((V - Y : Int) : Rat) * ((V - Y : Int) : Rat) ≠ 0)
    (hp : p = (X : Rat) + f * ((U - X : Int) : Rat) - (m : Rat) * ((V - Y : Int) : Rat)) (hq : q = (Y : Rat) + f * ((V - Y : Int) : Rat) + (m : Rat) * ((U - X : Int) : Rat)) :
    linF X Y U V p q = ((16384 * n : Int) : Rat) := by
  unfold linF
  generalize ((U - X : Int) : Rat) = u at *
  generalize ((V - Y : Int) : Rat) = v at *
  rw [Rat.intCast_mul, ← hf, hp, hq, Rat.div_def]
  have h : ((65536 : Int) : Rat) * (((X : Rat) + f * u - (m : Rat) * v - X) * u + ((Y : Rat) + f * v + (m : Rat) * u - Y) * v) = ((16384 : Int) : Rat) * (f * 4) * (u * u + v * v) := by
    have : ((65536 : Int) : Rat) = ((16384 : Int) : Rat) * 4 := by decide +kernel
    rw [this]; grind
  rw [h, Rat.mul_assoc, Rat.mul_inv_cancel _ hD, Rat.mul_one]
theorem linF_back {X Y U V n m : Int} {f p q : Rat} (hf : f * 4 = (n : Rat)) (hD : ((U - X : Int) : Rat) * ((U - X : Int) : Rat) + ((V - Y : Int) : Rat) * ((V - Y : Int) : Rat) ≠ 0)
    (hp : p = (X : Rat) + f * ((U - X : Int) : Rat) - (m : Rat) * ((V - Y : Int) : Rat)) (hq : q = (Y : Rat) + f * ((V - Y : Int) : Rat) + (m : Rat) * ((U - X : Int) : Rat)) :
    linF U V X Y p q = ((65536 - 16384 * n : Int) : Rat) := by
  unfold linF
  have e1 : ((X - U : Int) : Rat) = -((U - X : Int) : Rat) := by rw [← Rat.intCast_neg]; congr 1; omega
  have e2 : ((Y - V : Int) : Rat) = -((V - Y : Int) : Rat) := by rw [← Rat.intCast_neg]; congr 1; omega
  have e3 : (U : Rat) = X + ((U - X : Int) : Rat) := by rw [← Rat.intCast_add]; congr 1; omega
  have e4 : (V : Rat) = Y + ((V - Y : Int) : Rat) := by rw [← Rat.intCast_add]; congr 1; omega
  rw [e1, e2, e3, e4]
  generalize ((U - X : Int) : Rat) = u at *
  generalize ((V - Y : Int) : Rat) = v at *
  rw [Rat.intCast_sub, Rat.intCast_mul, ← hf, hp, hq, Rat.div_def]
  have h : ((65536 : Int) : Rat) * (((X : Rat) + f * u - (m : Rat) * v - (X + u)) * -u + ((Y : Rat) + f * v + (m : Rat) * u - (Y + v)) * -v) = (((65536 : Int) : Rat) - ((16384 : Int) : Rat) * (f * 4)) * (-u * -u + -v * -v) := by
    have : ((65536 : Int) : Rat) = ((16384 : Int) : Rat) * 4 := by decide +kernel
    rw [this]; grind
  rw [h, Rat.mul_assoc, Rat.mul_inv_cancel _ (by rwa [show -u * -u + -v * -v = u * u + v * v by grind]), Rat.mul_one]
theorem radF_at {X Y r x y : Int} {p q : Rat} (hp : p = ((X + x : Int) : Rat)) (hq : q = ((Y + y : Int) : Rat)) : radF X Y r p q = ((4294967296 * (x * x + y * y) : Int) : Rat) / ((r * r : Int) : Rat) := by
  unfold radF
  rw [hp, hq, Rat.intCast_add, Rat.intCast_add, show (X : Rat) + x - X = x by grind, show (Y : Rat) + y - Y = y by grind, ← Rat.intCast_mul, ← Rat.intCast_mul, ← Rat.intCast_add, ← Rat.intCast_mul]
theorem floor_intdiv (a b : Int) (hb : 0 < b) : ((a : Rat) / (b : Rat)).floor = a / b := by
  have hb' : (0 : Rat) < (b : Rat) := by exact_mod_cast hb
  refine Int.le_antisymm (Int.lt_add_one_iff.1 (Rat.floor_lt_iff.2 ?_)) (Rat.le_floor_iff.2 ?_)
  · rw [Rat.div_lt_iff hb']
    have h := Int.lt_mul_of_ediv_lt hb (Int.lt_succ (a / b))
    have : (a : Rat) < (((a / b + 1) * b : Int) : Rat) := by exact_mod_cast h
    rwa [Rat.intCast_mul] at this
  · rw [← Rat.not_lt, Rat.div_lt_iff hb', Rat.not_lt]
    have h : a / b * b ≤ a := Int.ediv_mul_le a (by omega)
    have : ((a / b * b : Int) : Rat) ≤ (a : Rat) := by exact_mod_cast h
    rwa [Rat.intCast_mul] at this
theorem clampI_id {x : Int} (h : -1099511627776 ≤ x ∧ x ≤ 1099511627776) : clampI x = x := by unfold clampI; rw [if_neg (by omega), if_neg (by omega)]
theorem sqrt_twice {a b n k : Nat} (hb : 0 < b) (hn : IsSqrt (a / b) n) (hk : IsSqrt (4 * a / b) k) : 2 * n ≤ k ∧ k ≤ 2 * n + 1 := by
  obtain ⟨h1, h2⟩ := hn
  obtain ⟨k1, k2⟩ := hk
  rw [Nat.le_div_iff_mul_le hb] at h1 k1
  rw [Nat.div_lt_iff_lt_mul hb] at h2 k2
  constructor
  · refine Nat.le_of_not_lt fun h => ?_
    have : (k + 1) * (k + 1) ≤ (2 * n) * (2 * n) := Nat.mul_le_mul h h
    have : (k + 1) * (k + 1) * b ≤ (2 * n) * (2 * n) * b := Nat.mul_le_mul_right _ this
    have e : (2 * n) * (2 * n) * b = 4 * (n * n * b) := by grind
    omega
  · refine Nat.le_of_not_lt fun h => ?_
    have : (2 * (n + 1)) * (2 * (n + 1)) ≤ k * k := Nat.mul_le_mul (by omega) (by omega)
    have : (2 * (n + 1)) * (2 * (n + 1)) * b ≤ k * k * b := Nat.mul_le_mul_right _ this
    have e : (2 * (n + 1)) * (2 * (n + 1)) * b = 4 * ((n + 1) * (n + 1) * b) := by grind
    omega

theorem linV_shift {X Y U V a b : Int} {p q : Rat} (h1 : validP X Y = true) (h2 : validP U V = true) (h3 : validP (X + a) (Y + b) = true) (h4 : validP (U + a) (V + b) = true) :
    linV (X + a) (Y + b) (U + a) (V + b) (p + (a : Rat)) (q + (b : Rat)) = linV X Y U V p q := by
  unfold linV
  rw [linF_shift]
  by_cases h : X = U ∧ Y = V
  · rw [if_neg (by simp [h]), if_neg (by simp [h])]
  · rw [if_pos ⟨h3, h4, by omega⟩, if_pos ⟨h1, h2, h⟩]
theorem radV_shift {X Y a b r : Int} {p q : Rat} (h1 : validP X Y = true) (h3 : validP (X + a) (Y + b) = true) : radV (X + a) (Y + b) r (p + (a : Rat)) (q + (b : Rat)) = radV X Y r p q := by
  unfold radV
  rw [radF_shift, h1, h3]
/-- The distance in parts of the radius. -/
def rI (r x y : Int) : Nat := isqrt (4294967296 * (x * x + y * y) / (r * r)).natAbs
theorem sq_nat (x : Int) : x * x = ((x.natAbs * x.natAbs : Nat) : Int) := by rw [Int.natCast_mul]; exact (Int.natAbs_mul_self' x).symm
theorem rI_nat {r x y : Int} : rI r x y = isqrt (4294967296 * (x.natAbs * x.natAbs + y.natAbs * y.natAbs) / (r.natAbs * r.natAbs)) := by
  unfold rI
  rw [sq_nat x, sq_nat y, sq_nat r]
  generalize x.natAbs * x.natAbs = a
  generalize y.natAbs * y.natAbs = b
  generalize r.natAbs * r.natAbs = c
  rw [show (4294967296 : Int) * ((a : Int) + (b : Int)) / (c : Int) = ((4294967296 * (a + b) / c : Nat) : Int) from by rw [Int.natCast_ediv, Int.natCast_mul, Int.natCast_add]; rfl, Int.natAbs_natCast]
theorem radV_at {X Y r x y : Int} (hv : validP X Y = true) (hr : 1 ≤ r ∧ r ≤ 1048576) : radV X Y r ((X + x : Int) : Rat) ((Y + y : Int) : Rat) = clampI (rI r x y) := by
  unfold radV
  have hrr : 0 < r * r := Int.mul_pos (by omega) (by omega)
  rw [if_pos ⟨hv, hr⟩, radF_at rfl rfl, floor_intdiv _ _ hrr]
  rfl
theorem rI_zero {r : Int} : rI r 0 0 = 0 := by
  rw [rI_nat, show ((0 : Int).natAbs * (0 : Int).natAbs + (0 : Int).natAbs * (0 : Int).natAbs) = 0 from rfl, Nat.mul_zero, Nat.zero_div]
  exact isqrt_eq ⟨by decide, by decide⟩
theorem rI_one {r x y : Int} (hr : 1 ≤ r) (h : x.natAbs * x.natAbs + y.natAbs * y.natAbs = r.natAbs * r.natAbs) : rI r x y = 65536 := by
  rw [rI_nat, h, Nat.mul_div_cancel _ (Nat.mul_pos (by omega) (by omega))]
  exact isqrt_eq ⟨by decide, by decide⟩
theorem rI_cong {r x y u v : Int} (h : x.natAbs * x.natAbs + y.natAbs * y.natAbs = u.natAbs * u.natAbs + v.natAbs * v.natAbs) : rI r x y = rI r u v := by rw [rI_nat, rI_nat, h]
theorem rI_twice {r x y : Int} (hr : 1 ≤ r) : 2 * rI r x y ≤ rI r (2 * x) (2 * y) ∧ rI r (2 * x) (2 * y) ≤ 2 * rI r x y + 1 := by
  rw [rI_nat, rI_nat]
  have e : 4294967296 * ((2 * x).natAbs * (2 * x).natAbs + (2 * y).natAbs * (2 * y).natAbs) = 4 * (4294967296 * (x.natAbs * x.natAbs + y.natAbs * y.natAbs)) := by
    rw [Int.natAbs_mul, Int.natAbs_mul]
    show 4294967296 * (2 * x.natAbs * (2 * x.natAbs) + 2 * y.natAbs * (2 * y.natAbs)) = _
    grind
  rw [e]
  exact sqrt_twice (Nat.mul_pos (by omega) (by omega)) (isqrt_spec _) (isqrt_spec _)

section
variable {w : World} {X Y U V Z A B x y n : Int} {p q : Rat} {a b : SV} {r s : RV} {K : Nat}
theorem few_v {g : Nat} {t : Bool} (ht : [r, s].all fewR = t) (h : BoxAt w g (r.cl ++ s.cl)) : Calls Try.prog 9 #[.slice (some ⟨g, 0, none⟩) 2 2] w (CallPost w (fun _ : Unit => .bool t) fun _ _ => True) := by
  subst ht; exact few_m (row2 h) (by decide)
theorem few_q (h : fewR r = true) (i : In w r.a.A r.a.n r.a.c r.a.l) (j : In w r.b.A r.b.n r.b.c r.b.l) : ∃ q, IsQ r q 20 w := by
  unfold fewR at h
  simp only [Bool.and_eq_true, decide_eq_true_eq] at h
  exact ⟨_, _, _, of_in i h.1, of_in j h.2, rfl⟩
theorem few2_q (h : [r, s].all fewR = true) (i1 : In w r.a.A r.a.n r.a.c r.a.l) (j1 : In w r.b.A r.b.n r.b.c r.b.l) (i2 : In w s.a.A s.a.n s.a.c s.a.l) (j2 : In w s.b.A s.b.n s.b.c s.b.l) : (∃ q, IsQ r q 20 w) ∧ ∃ q, IsQ s q 20 w := by
  simp only [List.all_cons, List.all_nil, Bool.and_true, Bool.and_eq_true] at h
  exact ⟨few_q h.1 i1 j1, few_q h.2 i2 j2⟩
set_option maxRecDepth 100000 in
set_option maxHeartbeats 2000000 in
theorem lawLinear (i1 : In w r.a.A r.a.n r.a.c r.a.l) (j1 : In w r.b.A r.b.n r.b.c r.b.l) (i2 : In w s.a.A s.a.n s.a.c s.a.l) (j2 : In w s.b.A s.b.n s.b.c s.b.l) :
    Calls Try.prog 3 #[.agg #[.int .i64 X, .int .i64 Y, .int .i64 U, .int .i64 V], .agg (r.cl ++ s.cl).toArray] w (CallPost w (fun _ : Unit => .bool true) fun _ _ => True) := by
  refine Good.enter Try.func3 rfl ?_
  refine Good.run (by kernel_rfl) (stop := 1) 1000 _ ?_
  refine Good.make (boxS 30 (.agg (r.cl ++ s.cl).toArray)) (ptr) (fun g u => BoxAt u g (r.cl ++ s.cl) ∧ 0 ≤ g ∧ g < u.heap.size) (by kernel_rfl) (fun w1 hw h => make_box (Nat.zero_le _)) (fun g => ?_)
  refine Good.run (by kernel_rfl) (stop := 1000) 1000 _ ?_
  cases hf : [r, s].all fewR
  ·
    refine Good.callv (fun w1 hw h => few_v hf h.2.1) (by kernel_rfl) (fun u => ?_)
    refine Good.run (by kernel_rfl) (stop := 1000) 1000 _ ?_
    refine Good.runC (by kernel_rfl) (stop := 1000) 6000 _ ?_
    refine Good.callv (fun w1 hw h => gexample_m w1) (by kernel_rfl) (fun u => ?_)
    refine Good.run (by kernel_rfl) (stop := 1000) 1000 _ ?_
    refine Good.ret (v := .bool true) (by kernel_rfl) (fun w1 hw h => ⟨(), rfl, hw, fun _ _ _ => trivial⟩)
  obtain ⟨⟨p, h1⟩, q, h2⟩ := few2_q hf i1 j1 i2 j2
  have h1 := h1.mono (show 20 ≤ 30 by decide)
  have h2 := h2.mono (show 20 ≤ 30 by decide)
  refine Good.callv (fun w1 hw h => few_v hf h.2.1) (by kernel_rfl) (fun u => ?_)
  refine Good.run (by kernel_rfl) (stop := 1000) 1000 _ ?_
  refine Good.cond false (by kernel_rfl) ?_
  refine Good.run (by kernel_rfl) (stop := 1000) 1000 _ ?_
  refine Good.askAt 5 (ldS 29 ⟨g, 0, none⟩) (r.val) (by kernel_rfl) (fun w1 hw h => run_ldN (vs := r.cl) (by kernel_rfl) (by kernel_rfl) h.1.2.1.fst) ?_
  refine Good.run (by kernel_rfl) (stop := 1000) 1000 _ ?_
  refine Good.askAt 7 (ldS 29 ⟨g, 4, none⟩) (s.val) (by kernel_rfl) (fun w1 hw h => run_ldN (vs := s.cl) (by kernel_rfl) (by kernel_rfl) h.1.2.1.mid) ?_
  refine Good.run (by kernel_rfl) (stop := 1000) 1000 _ ?_
  refine Good.askAt 14 (ldS 29 ⟨g, 0, none⟩) (r.val) (by kernel_rfl) (fun w1 hw h => run_ldN (vs := r.cl) (by kernel_rfl) (by kernel_rfl) h.1.2.1.fst) ?_
  refine Good.run (by kernel_rfl) (stop := 1000) 1000 _ ?_
  refine Good.askAt 16 (ldS 29 ⟨g, 4, none⟩) (s.val) (by kernel_rfl) (fun w1 hw h => run_ldN (vs := s.cl) (by kernel_rfl) (by kernel_rfl) h.1.2.1.mid) ?_
  refine Good.run (by kernel_rfl) (stop := 1000) 1000 _ ?_
  refine Good.callv (fun w1 hw h => linear_v (X := X) (Y := Y) (U := U) (V := V) rfl (h1.below hw) (h2.below hw)) (by kernel_rfl) (fun u => ?_)
  refine Good.run (by kernel_rfl) (stop := 1000) 1000 _ ?_
  refine Good.callv (fun w1 hw h => rlinear_m (X := X) (Y := Y) (U := U) (V := V) (h1.below hw) (h2.below hw)) (by kernel_rfl) (fun u => ?_)
  refine Good.run (by kernel_rfl) (stop := 19) 1000 _ ?_
  refine Good.slot 27 (.bool (linV X Y U V p q == linV X Y U V p q)) (.bool true) (by kernel_rfl) (by simp) ?_
  refine Good.run (by kernel_rfl) (stop := 1000) 1000 _ ?_
  refine Good.callv (fun w1 hw h => gexample_m w1) (by kernel_rfl) (fun u => ?_)
  refine Good.run (by kernel_rfl) (stop := 1000) 1000 _ ?_
  refine Good.ret (v := .bool true) (by kernel_rfl) (fun w1 hw h => ⟨(), rfl, hw, fun _ _ _ => trivial⟩)
set_option maxRecDepth 100000 in
set_option maxHeartbeats 2000000 in
theorem lawRadial (hZ : -9223372036854775808 ≤ Z ∧ Z ≤ 9223372036854775807) (i1 : In w r.a.A r.a.n r.a.c r.a.l) (j1 : In w r.b.A r.b.n r.b.c r.b.l) (i2 : In w s.a.A s.a.n s.a.c s.a.l) (j2 : In w s.b.A s.b.n s.b.c s.b.l) :
    Calls Try.prog 4 #[pt X Y, .int .i64 Z, .agg (r.cl ++ s.cl).toArray] w (CallPost w (fun _ : Unit => .bool true) fun _ _ => True) := by
  refine Good.enter Try.func4 rfl ?_
  refine Good.run (by kernel_rfl) (stop := 1) 1000 _ ?_
  refine Good.make (boxS 30 (.agg (r.cl ++ s.cl).toArray)) (ptr) (fun g u => BoxAt u g (r.cl ++ s.cl) ∧ 0 ≤ g ∧ g < u.heap.size) (by kernel_rfl) (fun w1 hw h => make_box (Nat.zero_le _)) (fun g => ?_)
  refine Good.run (by kernel_rfl) (stop := 1000) 1000 _ ?_
  cases hf : [r, s].all fewR
  ·
    refine Good.callv (fun w1 hw h => few_v hf h.2.1) (by kernel_rfl) (fun u => ?_)
    refine Good.run (by kernel_rfl) (stop := 1000) 1000 _ ?_
    refine Good.runC (by kernel_rfl) (stop := 1000) 6000 _ ?_
    refine Good.callv (fun w1 hw h => gexample_m w1) (by kernel_rfl) (fun u => ?_)
    refine Good.run (by kernel_rfl) (stop := 1000) 1000 _ ?_
    refine Good.ret (v := .bool true) (by kernel_rfl) (fun w1 hw h => ⟨(), rfl, hw, fun _ _ _ => trivial⟩)
  obtain ⟨⟨p, h1⟩, q, h2⟩ := few2_q hf i1 j1 i2 j2
  have h1 := h1.mono (show 20 ≤ 30 by decide)
  have h2 := h2.mono (show 20 ≤ 30 by decide)
  refine Good.callv (fun w1 hw h => few_v hf h.2.1) (by kernel_rfl) (fun u => ?_)
  refine Good.run (by kernel_rfl) (stop := 1000) 1000 _ ?_
  refine Good.cond false (by kernel_rfl) ?_
  refine Good.run (by kernel_rfl) (stop := 1000) 1000 _ ?_
  refine Good.askAt 3 (ldS 29 ⟨g, 0, none⟩) (r.val) (by kernel_rfl) (fun w1 hw h => run_ldN (vs := r.cl) (by kernel_rfl) (by kernel_rfl) h.1.2.1.fst) ?_
  refine Good.run (by kernel_rfl) (stop := 1000) 1000 _ ?_
  refine Good.askAt 5 (ldS 29 ⟨g, 4, none⟩) (s.val) (by kernel_rfl) (fun w1 hw h => run_ldN (vs := s.cl) (by kernel_rfl) (by kernel_rfl) h.1.2.1.mid) ?_
  refine Good.run (by kernel_rfl) (stop := 1000) 1000 _ ?_
  refine Good.askAt 10 (ldS 29 ⟨g, 0, none⟩) (r.val) (by kernel_rfl) (fun w1 hw h => run_ldN (vs := r.cl) (by kernel_rfl) (by kernel_rfl) h.1.2.1.fst) ?_
  refine Good.run (by kernel_rfl) (stop := 1000) 1000 _ ?_
  refine Good.askAt 12 (ldS 29 ⟨g, 4, none⟩) (s.val) (by kernel_rfl) (fun w1 hw h => run_ldN (vs := s.cl) (by kernel_rfl) (by kernel_rfl) h.1.2.1.mid) ?_
  refine Good.run (by kernel_rfl) (stop := 1000) 1000 _ ?_
  refine Good.callv (fun w1 hw h => radial_v (X := X) (Y := Y) hZ rfl (h1.below hw) (h2.below hw)) (by kernel_rfl) (fun u => ?_)
  refine Good.run (by kernel_rfl) (stop := 1000) 1000 _ ?_
  refine Good.callv (fun w1 hw h => rradial_m (X := X) (Y := Y) hZ (h1.below hw) (h2.below hw)) (by kernel_rfl) (fun u => ?_)
  refine Good.run (by kernel_rfl) (stop := 15) 1000 _ ?_
  refine Good.slot 25 (.bool (radV X Y Z p q == radV X Y Z p q)) (.bool true) (by kernel_rfl) (by simp) ?_
  refine Good.run (by kernel_rfl) (stop := 1000) 1000 _ ?_
  refine Good.callv (fun w1 hw h => gexample_m w1) (by kernel_rfl) (fun u => ?_)
  refine Good.run (by kernel_rfl) (stop := 1000) 1000 _ ?_
  refine Good.ret (v := .bool true) (by kernel_rfl) (fun w1 hw h => ⟨(), rfl, hw, fun _ _ _ => trivial⟩)
theorem valid_bd (h : validP X Y = true) : (-1048576 ≤ X ∧ X ≤ 1048576) ∧ (-1048576 ≤ Y ∧ Y ≤ 1048576) := by unfold validP at h; simpa using h
theorem raddP_v (h1 : validP X Y = true) (h2 : validP A B = true) : Calls Try.prog 25 #[pt X Y, pt A B] w (CallPost w (fun _ : Unit => pt (X + A) (Y + B)) fun _ _ => True) := by
  have h1 := valid_bd h1
  have h2 := valid_bd h2
  have := raddP_m (w := w) (X := X) (Y := Y) (U := A) (V := B)
  rwa [clampP_id h1.1, clampP_id h1.2, clampP_id h2.1, clampP_id h2.2, IntWalk.i64_in _ (by omega), IntWalk.i64_in _ (by omega)] at this
set_option maxRecDepth 100000 in
set_option maxHeartbeats 4000000 in
theorem lawTranslation (i1 : In w r.a.A r.a.n r.a.c r.a.l) (j1 : In w r.b.A r.b.n r.b.c r.b.l) (i2 : In w s.a.A s.a.n s.a.c s.a.l) (j2 : In w s.b.A s.b.n s.b.c s.b.l) :
    Calls Try.prog 8 #[.agg #[.int .i64 X, .int .i64 Y, .int .i64 U, .int .i64 V], pt A B, .agg (r.cl ++ s.cl).toArray] w (CallPost w (fun _ : Unit => .bool true) fun _ _ => True) := by
  refine Good.enter Try.func8 rfl ?_
  refine Good.run (by kernel_rfl) (stop := 2) 1000 _ ?_
  refine Good.make (boxS 30 (.agg (r.cl ++ s.cl).toArray)) (ptr) (fun g u => BoxAt u g (r.cl ++ s.cl) ∧ 0 ≤ g ∧ g < u.heap.size) (by kernel_rfl) (fun w1 hw h => make_box (Nat.zero_le _)) (fun g => ?_)
  refine Good.run (by kernel_rfl) (stop := 1000) 1000 _ ?_
  cases hf : [r, s].all fewR
  ·
    refine Good.callv (fun w1 hw h => few_v hf h.2.1) (by kernel_rfl) (fun u => ?_)
    refine Good.run (by kernel_rfl) (stop := 1000) 1000 _ ?_
    refine Good.runC (by kernel_rfl) (stop := 1000) 6000 _ ?_
    refine Good.callv (fun w1 hw h => gexample_m w1) (by kernel_rfl) (fun u => ?_)
    refine Good.run (by kernel_rfl) (stop := 1000) 1000 _ ?_
    refine Good.ret (v := .bool true) (by kernel_rfl) (fun w1 hw h => ⟨(), rfl, hw, fun _ _ _ => trivial⟩)
  obtain ⟨⟨p, h1⟩, q, h2⟩ := few2_q hf i1 j1 i2 j2
  refine Good.callv (fun w1 hw h => few_v hf h.2.1) (by kernel_rfl) (fun u => ?_)
  refine Good.run (by kernel_rfl) (stop := 1000) 1000 _ ?_
  cases v1 : validP X Y
  ·
    refine Good.callv (fun w1 hw h => rvalid_v v1) (by kernel_rfl) (fun u => ?_)
    refine Good.run (by kernel_rfl) (stop := 1000) 1000 _ ?_
    refine Good.runC (by kernel_rfl) (stop := 1000) 6000 _ ?_
    refine Good.callv (fun w1 hw h => gexample_m w1) (by kernel_rfl) (fun u => ?_)
    refine Good.run (by kernel_rfl) (stop := 1000) 1000 _ ?_
    refine Good.ret (v := .bool true) (by kernel_rfl) (fun w1 hw h => ⟨(), rfl, hw, fun _ _ _ => trivial⟩)
  refine Good.callv (fun w1 hw h => rvalid_v v1) (by kernel_rfl) (fun u => ?_)
  refine Good.run (by kernel_rfl) (stop := 1000) 1000 _ ?_
  cases v2 : validP U V
  ·
    refine Good.callv (fun w1 hw h => rvalid_v v2) (by kernel_rfl) (fun u => ?_)
    refine Good.run (by kernel_rfl) (stop := 1000) 1000 _ ?_
    refine Good.runC (by kernel_rfl) (stop := 1000) 6000 _ ?_
    refine Good.callv (fun w1 hw h => gexample_m w1) (by kernel_rfl) (fun u => ?_)
    refine Good.run (by kernel_rfl) (stop := 1000) 1000 _ ?_
    refine Good.ret (v := .bool true) (by kernel_rfl) (fun w1 hw h => ⟨(), rfl, hw, fun _ _ _ => trivial⟩)
  refine Good.callv (fun w1 hw h => rvalid_v v2) (by kernel_rfl) (fun u => ?_)
  refine Good.run (by kernel_rfl) (stop := 1000) 1000 _ ?_
  cases v3 : validP A B
  ·
    refine Good.callv (fun w1 hw h => rvalid_v v3) (by kernel_rfl) (fun u => ?_)
    refine Good.run (by kernel_rfl) (stop := 1000) 1000 _ ?_
    refine Good.runC (by kernel_rfl) (stop := 1000) 6000 _ ?_
    refine Good.callv (fun w1 hw h => gexample_m w1) (by kernel_rfl) (fun u => ?_)
    refine Good.run (by kernel_rfl) (stop := 1000) 1000 _ ?_
    refine Good.ret (v := .bool true) (by kernel_rfl) (fun w1 hw h => ⟨(), rfl, hw, fun _ _ _ => trivial⟩)
  have v3b := valid_bd v3
  refine Good.callv (fun w1 hw h => rvalid_v v3) (by kernel_rfl) (fun u => ?_)
  refine Good.run (by kernel_rfl) (stop := 1000) 1000 _ ?_
  refine Good.cond false (by kernel_rfl) ?_
  refine Good.run (by kernel_rfl) (stop := 1000) 1000 _ ?_
  refine Good.callv (fun w1 hw h => raddP_v v1 v3) (by kernel_rfl) (fun u => ?_)
  refine Good.run (by kernel_rfl) (stop := 1000) 1000 _ ?_
  refine Good.callv (fun w1 hw h => raddP_v v2 v3) (by kernel_rfl) (fun u => ?_)
  refine Good.run (by kernel_rfl) (stop := 1000) 1000 _ ?_
  cases v4 : validP (X + A) (Y + B)
  ·
    refine Good.callv (fun w1 hw h => rvalid_v v4) (by kernel_rfl) (fun u => ?_)
    refine Good.run (by kernel_rfl) (stop := 1000) 1000 _ ?_
    refine Good.runC (by kernel_rfl) (stop := 1000) 6000 _ ?_
    refine Good.callv (fun w1 hw h => gexample_m w1) (by kernel_rfl) (fun u => ?_)
    refine Good.run (by kernel_rfl) (stop := 1000) 1000 _ ?_
    refine Good.ret (v := .bool true) (by kernel_rfl) (fun w1 hw h => ⟨(), rfl, hw, fun _ _ _ => trivial⟩)
  refine Good.callv (fun w1 hw h => rvalid_v v4) (by kernel_rfl) (fun u => ?_)
  refine Good.run (by kernel_rfl) (stop := 1000) 1000 _ ?_
  cases v5 : validP (U + A) (V + B)
  ·
    refine Good.callv (fun w1 hw h => rvalid_v v5) (by kernel_rfl) (fun u => ?_)
    refine Good.run (by kernel_rfl) (stop := 1000) 1000 _ ?_
    refine Good.runC (by kernel_rfl) (stop := 1000) 6000 _ ?_
    refine Good.callv (fun w1 hw h => gexample_m w1) (by kernel_rfl) (fun u => ?_)
    refine Good.run (by kernel_rfl) (stop := 1000) 1000 _ ?_
    refine Good.ret (v := .bool true) (by kernel_rfl) (fun w1 hw h => ⟨(), rfl, hw, fun _ _ _ => trivial⟩)
  refine Good.callv (fun w1 hw h => rvalid_v v5) (by kernel_rfl) (fun u => ?_)
  refine Good.run (by kernel_rfl) (stop := 1000) 1000 _ ?_
  refine Good.cond false (by kernel_rfl) ?_
  refine Good.run (by kernel_rfl) (stop := 1000) 1000 _ ?_
  refine Good.askAt 1 (ldS 29 ⟨g, 0, none⟩) (r.val) (by kernel_rfl) (fun w1 hw h => run_ldN (vs := r.cl) (by kernel_rfl) (by kernel_rfl) h.1.1.1.1.1.1.1.1.2.1.fst) ?_
  refine Good.run (by kernel_rfl) (stop := 1000) 1000 _ ?_
  refine Good.askAt 7 (ldS 29 ⟨g, 4, none⟩) (s.val) (by kernel_rfl) (fun w1 hw h => run_ldN (vs := s.cl) (by kernel_rfl) (by kernel_rfl) h.1.1.1.1.1.1.1.1.2.1.mid) ?_
  refine Good.run (by kernel_rfl) (stop := 1000) 1000 _ ?_
  refine Good.callv (fun w1 hw h => rqfromInt_m A w1 (by omega) (by omega)) (by kernel_rfl) (fun f => ?_)
  refine Good.run (by kernel_rfl) (stop := 1000) 1000 _ ?_
  refine Good.callv (fun w1 hw h => rqadd_m (h1.below hw) h.2.q (by decide)) (by kernel_rfl) (fun m => ?_)
  refine Good.run (by kernel_rfl) (stop := 1000) 1000 _ ?_
  refine Good.callv (fun w1 hw h => rqfromInt_m B w1 (by omega) (by omega)) (by kernel_rfl) (fun e => ?_)
  refine Good.run (by kernel_rfl) (stop := 1000) 1000 _ ?_
  refine Good.callv (fun w1 hw h => rqadd_m (h2.below hw) h.2.q (by decide)) (by kernel_rfl) (fun n => ?_)
  refine Good.run (by kernel_rfl) (stop := 1000) 1000 _ ?_
  refine Good.askAt 10 (ldS 29 ⟨g, 0, none⟩) (r.val) (by kernel_rfl) (fun w1 hw h => run_ldN (vs := r.cl) (by kernel_rfl) (by kernel_rfl) h.1.1.1.1.1.1.1.1.1.1.1.1.2.1.fst) ?_
  refine Good.run (by kernel_rfl) (stop := 1000) 1000 _ ?_
  refine Good.askAt 12 (ldS 29 ⟨g, 4, none⟩) (s.val) (by kernel_rfl) (fun w1 hw h => run_ldN (vs := s.cl) (by kernel_rfl) (by kernel_rfl) h.1.1.1.1.1.1.1.1.1.1.1.1.2.1.mid) ?_
  refine Good.run (by kernel_rfl) (stop := 1000) 1000 _ ?_
  refine Good.callv (fun w1 hw h => linear_v (linV_shift v1 v2 v4 v5) (h.1.1.2.q.mono (by decide)) (h.2.q.mono (by decide))) (by kernel_rfl) (fun u => ?_)
  refine Good.run (by kernel_rfl) (stop := 1000) 1000 _ ?_
  refine Good.callv (fun w1 hw h => linear_v (X := X) (Y := Y) (U := U) (V := V) rfl ((h1.below hw).mono (by decide)) ((h2.below hw).mono (by decide))) (by kernel_rfl) (fun u => ?_)
  refine Good.run (by kernel_rfl) (stop := 15) 1000 _ ?_
  refine Good.slot 75 (.bool (linV X Y U V p q == linV X Y U V p q)) (.bool true) (by kernel_rfl) (by simp) ?_
  refine Good.run (by kernel_rfl) (stop := 1000) 1000 _ ?_
  refine Good.askAt 23 (ldS 29 ⟨g, 0, none⟩) (r.val) (by kernel_rfl) (fun w1 hw h => run_ldN (vs := r.cl) (by kernel_rfl) (by kernel_rfl) h.1.1.1.1.1.1.1.1.1.1.1.1.1.1.2.1.fst) ?_
  refine Good.run (by kernel_rfl) (stop := 1000) 1000 _ ?_
  refine Good.askAt 25 (ldS 29 ⟨g, 4, none⟩) (s.val) (by kernel_rfl) (fun w1 hw h => run_ldN (vs := s.cl) (by kernel_rfl) (by kernel_rfl) h.1.1.1.1.1.1.1.1.1.1.1.1.1.1.2.1.mid) ?_
  refine Good.run (by kernel_rfl) (stop := 1000) 1000 _ ?_
  refine Good.callv (fun w1 hw h => radial_v (Z := 300) (by decide) (radV_shift v1 v4) (h.1.1.1.1.2.q.mono (by decide)) (h.1.1.2.q.mono (by decide))) (by kernel_rfl) (fun u => ?_)
  refine Good.run (by kernel_rfl) (stop := 1000) 1000 _ ?_
  refine Good.callv (fun w1 hw h => radial_v (X := X) (Y := Y) (Z := 300) (by decide) rfl ((h1.below hw).mono (by decide)) ((h2.below hw).mono (by decide))) (by kernel_rfl) (fun u => ?_)
  refine Good.run (by kernel_rfl) (stop := 28) 1000 _ ?_
  refine Good.slot 88 (.bool (radV X Y 300 p q == radV X Y 300 p q)) (.bool true) (by kernel_rfl) (by simp) ?_
  refine Good.run (by kernel_rfl) (stop := 1000) 1000 _ ?_
  refine Good.callv (fun w1 hw h => gexample_m w1) (by kernel_rfl) (fun u => ?_)
  refine Good.run (by kernel_rfl) (stop := 1000) 1000 _ ?_
  refine Good.ret (v := .bool true) (by kernel_rfl) (fun w1 hw h => ⟨(), rfl, hw, fun _ _ _ => trivial⟩)
end

section
variable {w : World} {X Y U V Z A B x y n m : Int} {p q : Rat} {a b : SV} {r s : RV} {K : Nat}
theorem quarter (n : Int) : Rat.divInt n 4 * 4 = (n : Rat) := by
  rw [Rat.divInt_eq_div]
  have : ((4 : Int) : Rat) = 4 := by norm_cast
  rw [this, Rat.div_mul_cancel]
  decide
set_option maxRecDepth 100000 in
set_option maxHeartbeats 1000000 in
theorem on_m (hX : -9223372036854775808 ≤ X ∧ X ≤ 9223372036854775807) (hY : -9223372036854775808 ≤ Y ∧ Y ≤ 9223372036854775807) (hA : -9223372036854775808 ≤ A ∧ A ≤ 9223372036854775807) (hB : -9223372036854775808 ≤ B ∧ B ≤ 9223372036854775807) (hn : -9223372036854775808 ≤ n ∧ n ≤ 9223372036854775807) :
    Calls Try.prog 21 #[pt X Y, pt A B, .int .i64 n] w (CallPost w (fun v : RV × RV => .tuple #[v.1.val, v.2.val]) fun v u => IsQN v.1 ((X : Rat) + Rat.divInt n 4 * (A : Rat)) 7 u ∧ IsQN v.2 ((Y : Rat) + Rat.divInt n 4 * (B : Rat)) 7 u) := by
  refine Good.enter Try.func21 rfl ?_
  refine Good.run (by kernel_rfl) (stop := 1000) 1000 _ ?_
  refine Good.callv (fun w1 hw h => rqfromInts_m (x := n) (y := 4) hn (by decide)) (by kernel_rfl) (fun f => ?_)
  refine Good.run (by kernel_rfl) (stop := 1000) 1000 _ ?_
  refine Good.callv (fun w1 hw h => rqfromInt_m X w1 hX.1 hX.2) (by kernel_rfl) (fun c => ?_)
  refine Good.run (by kernel_rfl) (stop := 1000) 1000 _ ?_
  refine Good.callv (fun w1 hw h => rqfromInt_m A w1 hA.1 hA.2) (by kernel_rfl) (fun d => ?_)
  refine Good.run (by kernel_rfl) (stop := 1000) 1000 _ ?_
  refine Good.callv (fun w1 hw h => rqmul_m (h.1.1.2.n (by decide)).q h.2.q (by decide)) (by kernel_rfl) (fun e => ?_)
  refine Good.run (by kernel_rfl) (stop := 1000) 1000 _ ?_
  refine Good.callv (fun w1 hw h => rqadd_m h.1.1.2.q h.2.q (by decide)) (by kernel_rfl) (fun g => ?_)
  refine Good.run (by kernel_rfl) (stop := 1000) 1000 _ ?_
  refine Good.callv (fun w1 hw h => rqfromInt_m Y w1 hY.1 hY.2) (by kernel_rfl) (fun i => ?_)
  refine Good.run (by kernel_rfl) (stop := 1000) 1000 _ ?_
  refine Good.callv (fun w1 hw h => rqfromInt_m B w1 hB.1 hB.2) (by kernel_rfl) (fun j => ?_)
  refine Good.run (by kernel_rfl) (stop := 1000) 1000 _ ?_
  refine Good.callv (fun w1 hw h => rqmul_m (h.1.1.1.1.1.1.2.n (by decide)).q h.2.q (by decide)) (by kernel_rfl) (fun k => ?_)
  refine Good.run (by kernel_rfl) (stop := 1000) 1000 _ ?_
  refine Good.callv (fun w1 hw h => rqadd_m h.1.1.2.q h.2.q (by decide)) (by kernel_rfl) (fun l => ?_)
  refine Good.run (by kernel_rfl) (stop := 1000) 1000 _ ?_
  refine Good.ret (v := .tuple #[g.val, l.val]) (by kernel_rfl) (fun w1 hw h => ⟨(g, l), rfl, hw, fun w'' k1 k2 => ⟨(h w'' k1 k2).1.1.1.1.2, (h w'' k1 k2).2⟩⟩)
theorem linV_val {v : Int} (h1 : validP X Y = true) (h2 : validP U V = true) (he : ¬ (X = U ∧ Y = V)) (h : linF X Y U V p q = (v : Rat)) (hv : -1099511627776 ≤ v ∧ v ≤ 1099511627776) : linV X Y U V p q = v := by
  unfold linV
  rw [if_pos ⟨h1, h2, he⟩, h, Rat.floor_intCast, clampI_id hv]
theorem linV_bad (h : validP X Y = false ∨ validP U V = false ∨ (X = U ∧ Y = V)) : linV X Y U V p q = 65536 := by
  unfold linV
  rw [if_neg]
  rintro ⟨h1, h2, h3⟩
  rcases h with h | h | h
  · rw [h1] at h; cases h
  · rw [h2] at h; cases h
  · exact h3 h
theorem linF_start : linF X Y U V (X : Rat) (Y : Rat) = ((0 : Int) : Rat) := by
  unfold linF
  rw [show (X : Rat) - X = 0 by grind, show (Y : Rat) - Y = 0 by grind, Rat.zero_mul, Rat.zero_mul, Rat.add_zero, Rat.mul_zero, Rat.div_def, Rat.zero_mul]
  rfl
theorem linF_end (hD : ((U - X : Int) : Rat) * ((U - X : Int) : Rat) + ((V - Y : Int) : Rat) * ((V - Y : Int) : Rat) ≠ 0) : linF X Y U V (U : Rat) (V : Rat) = ((65536 : Int) : Rat) := by
  unfold linF
  rw [show (U : Rat) - X = ((U - X : Int) : Rat) from (Rat.intCast_sub _ _).symm, show (V : Rat) - Y = ((V - Y : Int) : Rat) from (Rat.intCast_sub _ _).symm, Rat.div_def, Rat.mul_assoc, Rat.mul_inv_cancel _ hD, Rat.mul_one]
theorem tmod_bd {k : Int} {d : Int} (hd : 0 < d) : -d < k.tmod d ∧ k.tmod d < d := by
  have h1 := Int.tmod_lt_of_pos k hd
  have h2 := Int.tmod_lt_of_pos (-k) hd
  rw [Int.neg_tmod] at h2
  omega
theorem mul_bd {a b A B : Int} (ha : -A ≤ a ∧ a ≤ A) (hb : -B ≤ b ∧ b ≤ B) : -(A * B) ≤ a * b ∧ a * b ≤ A * B := by
  have h1 : a.natAbs * b.natAbs ≤ A.natAbs * B.natAbs := Nat.mul_le_mul (by omega) (by omega)
  rw [← Int.natAbs_mul, ← Int.natAbs_mul] at h1
  have h2 : 0 ≤ A * B := Int.mul_nonneg (by omega) (by omega)
  omega
set_option maxRecDepth 100000 in
set_option maxHeartbeats 4000000 in
theorem lawMonotone {k0 k1 : Int} (hX : -9223372036854775808 ≤ X ∧ X ≤ 9223372036854775807) (hY : -9223372036854775808 ≤ Y ∧ Y ≤ 9223372036854775807) :
    Calls Try.prog 6 #[pt X Y, pt U V, .agg #[.int .i64 k0, .int .i64 k1]] w (CallPost w (fun _ : Unit => .bool true) fun _ _ => True) := by
  have bad : ∀ u : World, (validP X Y = false ∨ validP U V = false ∨ (X = U ∧ Y = V)) → ∀ {r s : RV}, IsQN r ((1 : Int) : Rat) 2 u → IsQN s ((2 : Int) : Rat) 2 u → Calls Try.prog 11 #[pt X Y, pt U V, r.val, s.val] u (CallPost u (fun _ : Unit => .int .i64 65536) fun _ _ => True) := fun u h r s h1 h2 =>
    linear_v (linV_bad h) (h1.q.mono (by decide)) (h2.q.mono (by decide))
  refine Good.enter Try.func6 rfl ?_
  refine Good.run (by kernel_rfl) (stop := 1000) 1000 _ ?_
  cases ha : validP X Y
  ·
    refine Good.callv (fun w1 hw h => rvalid_v ha) (by kernel_rfl) (fun u => ?_)
    refine Good.run (by kernel_rfl) (stop := 1000) 1000 _ ?_
    refine Good.runC (by kernel_rfl) (stop := 1000) 6000 _ ?_
    refine Good.callv (fun w1 hw h => rqfromInt_m 1 w1 (by decide) (by decide)) (by kernel_rfl) (fun c => ?_)
    refine Good.run (by kernel_rfl) (stop := 1000) 1000 _ ?_
    refine Good.callv (fun w1 hw h => rqfromInt_m 2 w1 (by decide) (by decide)) (by kernel_rfl) (fun d => ?_)
    refine Good.run (by kernel_rfl) (stop := 1000) 1000 _ ?_
    refine Good.callv (fun w1 hw h => bad w1 (.inl ha) h.1.2 h.2) (by kernel_rfl) (fun u => ?_)
    refine Good.run (by kernel_rfl) (stop := 1000) 1000 _ ?_
    refine Good.callv (fun w1 hw h => gexample_m w1) (by kernel_rfl) (fun u => ?_)
    refine Good.run (by kernel_rfl) (stop := 1000) 1000 _ ?_
    refine Good.ret (v := .bool true) (by kernel_rfl) (fun w1 hw h => ⟨(), rfl, hw, fun _ _ _ => trivial⟩)
  refine Good.callv (fun w1 hw h => rvalid_v ha) (by kernel_rfl) (fun u => ?_)
  refine Good.run (by kernel_rfl) (stop := 1000) 1000 _ ?_
  cases hb : validP U V
  ·
    refine Good.callv (fun w1 hw h => rvalid_v hb) (by kernel_rfl) (fun u => ?_)
    refine Good.run (by kernel_rfl) (stop := 1000) 1000 _ ?_
    refine Good.runC (by kernel_rfl) (stop := 1000) 6000 _ ?_
    refine Good.callv (fun w1 hw h => rqfromInt_m 1 w1 (by decide) (by decide)) (by kernel_rfl) (fun c => ?_)
    refine Good.run (by kernel_rfl) (stop := 1000) 1000 _ ?_
    refine Good.callv (fun w1 hw h => rqfromInt_m 2 w1 (by decide) (by decide)) (by kernel_rfl) (fun d => ?_)
    refine Good.run (by kernel_rfl) (stop := 1000) 1000 _ ?_
    refine Good.callv (fun w1 hw h => bad w1 (.inr (.inl hb)) h.1.2 h.2) (by kernel_rfl) (fun u => ?_)
    refine Good.run (by kernel_rfl) (stop := 1000) 1000 _ ?_
    refine Good.callv (fun w1 hw h => gexample_m w1) (by kernel_rfl) (fun u => ?_)
    refine Good.run (by kernel_rfl) (stop := 1000) 1000 _ ?_
    refine Good.ret (v := .bool true) (by kernel_rfl) (fun w1 hw h => ⟨(), rfl, hw, fun _ _ _ => trivial⟩)
  refine Good.callv (fun w1 hw h => rvalid_v hb) (by kernel_rfl) (fun u => ?_)
  refine Good.run (by kernel_rfl) (stop := 11) 1000 _ ?_
  by_cases he : X = U ∧ Y = V
  ·
    refine Good.ask (eqP 23 (.tmp 23) (.tmp 24) (pt X Y) (pt U V)) (.bool true) (by kernel_rfl) (fun w1 hw h => by rw [run_eqP, he.1, he.2]; simp) ?_
    refine Good.run (by kernel_rfl) (stop := 1000) 1000 _ ?_
    refine Good.runC (by kernel_rfl) (stop := 1000) 6000 _ ?_
    refine Good.callv (fun w1 hw h => rqfromInt_m 1 w1 (by decide) (by decide)) (by kernel_rfl) (fun c => ?_)
    refine Good.run (by kernel_rfl) (stop := 1000) 1000 _ ?_
    refine Good.callv (fun w1 hw h => rqfromInt_m 2 w1 (by decide) (by decide)) (by kernel_rfl) (fun d => ?_)
    refine Good.run (by kernel_rfl) (stop := 1000) 1000 _ ?_
    refine Good.callv (fun w1 hw h => bad w1 (.inr (.inr he)) h.1.2 h.2) (by kernel_rfl) (fun u => ?_)
    refine Good.run (by kernel_rfl) (stop := 1000) 1000 _ ?_
    refine Good.callv (fun w1 hw h => gexample_m w1) (by kernel_rfl) (fun u => ?_)
    refine Good.run (by kernel_rfl) (stop := 1000) 1000 _ ?_
    refine Good.ret (v := .bool true) (by kernel_rfl) (fun w1 hw h => ⟨(), rfl, hw, fun _ _ _ => trivial⟩)
  have hE : (X == U && Y == V) = false := by simp; omega
  have hv := valid_bd ha
  have hv2 := valid_bd hb
  have hD := sq_ne (a := U - X) (b := V - Y) (by omega)
  obtain ⟨n, hn⟩ : ∃ n, k0.tmod 10000 = n := ⟨_, rfl⟩
  obtain ⟨m, hm⟩ : ∃ m, k1.tmod 10000 = m := ⟨_, rfl⟩
  have bn : -10000 < n ∧ n < 10000 := by rw [← hn]; exact tmod_bd (by decide)
  have bm : -10000 < m ∧ m < 10000 := by rw [← hm]; exact tmod_bd (by decide)
  have bmv := mul_bd (a := m) (b := V - Y) (A := 10000) (B := 2097152) (by omega) (by omega)
  have bmu := mul_bd (a := m) (b := U - X) (A := 10000) (B := 2097152) (by omega) (by omega)
  have wn : IntKind.i64.wrap (16384 * n) = 16384 * n := IntWalk.i64_in _ (by omega)
  have wmv : IntKind.i64.wrap (m * (V - Y)) = m * (V - Y) := IntWalk.i64_in _ (by omega)
  have wmu : IntKind.i64.wrap (m * (U - X)) = m * (U - X) := IntWalk.i64_in _ (by omega)
  refine Good.ask (eqP 23 (.tmp 23) (.tmp 24) (pt X Y) (pt U V)) (.bool false) (by kernel_rfl) (fun w1 hw h => by rw [run_eqP, hE]) ?_
  refine Good.run (by kernel_rfl) (stop := 1000) 1000 _ ?_
  refine Good.cond false (by kernel_rfl) ?_
  refine Good.run (by kernel_rfl) (stop := 1000) 1000 _ ?_
  refine Good.slot 7 (.int .i64 (k0.tmod 10000)) (.int .i64 n) (by kernel_rfl) (by rw [hn]) ?_
  refine Good.slot 8 (.int .i64 (k1.tmod 10000)) (.int .i64 m) (by kernel_rfl) (by rw [hm]) ?_
  refine Good.callv (fun w1 hw h => rsubP_v ha hb) (by kernel_rfl) (fun o => ?_)
  refine Good.run (by kernel_rfl) (stop := 1000) 1000 _ ?_
  refine Good.callv (fun w1 hw h => on_m (X := X) (Y := Y) (A := U - X) (B := V - Y) (n := n) (by omega) (by omega) (by omega) (by omega) (by omega)) (by kernel_rfl) (fun v => ?_)
  refine Good.run (by kernel_rfl) (stop := 1000) 1000 _ ?_
  refine Good.callv (fun w1 hw h => linear_v (X := X) (Y := Y) (U := U) (V := V) (linV_val ha hb he (linF_on (n := n) (m := 0) (f := Rat.divInt n 4) (quarter n) hD (by grind) (by grind)) (by omega)) (h.2.1.q.mono (by decide)) (h.2.2.q.mono (by decide))) (by kernel_rfl) (fun u => ?_)
  refine Good.run (by kernel_rfl) (stop := 8) 1000 _ ?_
  refine Good.slot 59 (.bool (16384 * n != IntKind.i64.wrap (16384 * n))) (.bool false) (by kernel_rfl) (by rw [wn]; simp) ?_
  refine Good.run (by kernel_rfl) (stop := 1000) 1000 _ ?_
  refine Good.callv (fun w1 hw h => rqfromInt_m X w1 hX.1 hX.2) (by kernel_rfl) (fun c => ?_)
  refine Good.run (by kernel_rfl) (stop := 1000) 1000 _ ?_
  refine Good.callv (fun w1 hw h => rqfromInt_m Y w1 hY.1 hY.2) (by kernel_rfl) (fun d => ?_)
  refine Good.run (by kernel_rfl) (stop := 1000) 1000 _ ?_
  refine Good.callv (fun w1 hw h => linear_v (X := X) (Y := Y) (U := U) (V := V) (linV_val ha hb he linF_start (by decide)) (h.1.2.q.mono (by decide)) (h.2.q.mono (by decide))) (by kernel_rfl) (fun u => ?_)
  refine Good.run (by kernel_rfl) (stop := 1000) 1000 _ ?_
  refine Good.callv (fun w1 hw h => rqfromInt_m U w1 (by omega) (by omega)) (by kernel_rfl) (fun e => ?_)
  refine Good.run (by kernel_rfl) (stop := 1000) 1000 _ ?_
  refine Good.callv (fun w1 hw h => rqfromInt_m V w1 (by omega) (by omega)) (by kernel_rfl) (fun f => ?_)
  refine Good.run (by kernel_rfl) (stop := 1000) 1000 _ ?_
  refine Good.callv (fun w1 hw h => linear_v (X := X) (Y := Y) (U := U) (V := V) (linV_val ha hb he (linF_end hD) (by decide)) (h.1.2.q.mono (by decide)) (h.2.q.mono (by decide))) (by kernel_rfl) (fun u => ?_)
  refine Good.run (by kernel_rfl) (stop := 1000) 1000 _ ?_
  refine Good.cond false (by kernel_rfl) ?_
  refine Good.run (by kernel_rfl) (stop := 1000) 1000 _ ?_
  refine Good.callv (fun w1 hw h => rqfromInt_m (IntKind.i64.wrap (m * (V - Y))) w1 (by omega) (by omega)) (by kernel_rfl) (fun g => ?_)
  refine Good.run (by kernel_rfl) (stop := 1000) 1000 _ ?_
  refine Good.callv (fun w1 hw h => rqsub_m h.1.1.1.1.1.1.1.1.2.1.q h.2.q (by decide)) (by kernel_rfl) (fun i => ?_)
  refine Good.run (by kernel_rfl) (stop := 1000) 1000 _ ?_
  refine Good.callv (fun w1 hw h => rqfromInt_m (IntKind.i64.wrap (m * (U - X))) w1 (by omega) (by omega)) (by kernel_rfl) (fun j => ?_)
  refine Good.run (by kernel_rfl) (stop := 1000) 1000 _ ?_
  refine Good.callv (fun w1 hw h => rqadd_m h.1.1.1.1.1.1.1.1.1.1.2.2.q h.2.q (by decide)) (by kernel_rfl) (fun k => ?_)
  refine Good.run (by kernel_rfl) (stop := 1000) 1000 _ ?_
  have e1 : (X : Rat) + Rat.divInt n 4 * ((U - X : Int) : Rat) - ((IntKind.i64.wrap (m * (V - Y)) : Int) : Rat) = (X : Rat) + Rat.divInt n 4 * ((U - X : Int) : Rat) - (m : Rat) * ((V - Y : Int) : Rat) := by rw [wmv, Rat.intCast_mul]
  have e2 : (Y : Rat) + Rat.divInt n 4 * ((V - Y : Int) : Rat) + ((IntKind.i64.wrap (m * (U - X)) : Int) : Rat) = (Y : Rat) + Rat.divInt n 4 * ((V - Y : Int) : Rat) + (m : Rat) * ((U - X : Int) : Rat) := by rw [wmu, Rat.intCast_mul]
  refine Good.callv (fun w1 hw h => linear_v (X := X) (Y := Y) (U := U) (V := V) (linV_val ha hb he (linF_on (quarter n) hD e1 e2) (by omega)) (h.1.1.2.q.mono (by decide)) (h.2.q.mono (by decide))) (by kernel_rfl) (fun u => ?_)
  refine Good.run (by kernel_rfl) (stop := 8) 1000 _ ?_
  refine Good.slot 105 (.bool (16384 * n == IntKind.i64.wrap (16384 * n))) (.bool true) (by kernel_rfl) (by rw [wn]; simp) ?_
  refine Good.run (by kernel_rfl) (stop := 1000) 1000 _ ?_
  refine Good.callv (fun w1 hw h => linear_v (X := U) (Y := V) (U := X) (V := Y) (linV_val hb ha (by omega) (linF_back (quarter n) hD e1 e2) (by omega)) (h.1.1.1.2.q.mono (by decide)) (h.1.2.q.mono (by decide))) (by kernel_rfl) (fun u => ?_)
  refine Good.run (by kernel_rfl) (stop := 19) 1000 _ ?_
  refine Good.slot 115 (.bool (65536 - 16384 * n == IntKind.i64.wrap (65536 - IntKind.i64.wrap (16384 * n)))) (.bool true) (by kernel_rfl) (by rw [wn, IntWalk.i64_in _ (by omega)]; simp) ?_
  refine Good.slot 116 (.bool (65536 - 16384 * n == IntKind.i64.wrap (65536 - IntKind.i64.wrap (16384 * n)))) (.bool true) (by kernel_rfl) (by rw [wn, IntWalk.i64_in _ (by omega)]; simp) ?_
  refine Good.run (by kernel_rfl) (stop := 1000) 1000 _ ?_
  refine Good.callv (fun w1 hw h => gexample_m w1) (by kernel_rfl) (fun u => ?_)
  refine Good.run (by kernel_rfl) (stop := 1000) 1000 _ ?_
  refine Good.ret (v := .bool true) (by kernel_rfl) (fun w1 hw h => ⟨(), rfl, hw, fun _ _ _ => trivial⟩)

set_option maxRecDepth 100000 in
set_option maxHeartbeats 1000000 in
theorem far_m (hv : validP X Y = true) (hr : 1 ≤ Z ∧ Z ≤ 1048576) (hx : -100000000 ≤ x ∧ x ≤ 100000000) (hy : -100000000 ≤ y ∧ y ≤ 100000000) {v : Int} (hfv : clampI (rI Z x y) = v) :
    Calls Try.prog 24 #[pt X Y, .int .i64 Z, .int .i64 x, .int .i64 y] w (CallPost w (fun _ : Unit => .int .i64 v) fun _ _ => True) := by
  have hb := valid_bd hv
  have w1x : IntKind.i64.wrap (X + x) = X + x := IntWalk.i64_in _ (by omega)
  have w1y : IntKind.i64.wrap (Y + y) = Y + y := IntWalk.i64_in _ (by omega)
  refine Good.enter Try.func24 rfl ?_
  refine Good.run (by kernel_rfl) (stop := 1000) 1000 _ ?_
  refine Good.callv (fun w1 hw h => rqfromInt_m (IntKind.i64.wrap (X + x)) w1 (by omega) (by omega)) (by kernel_rfl) (fun c => ?_)
  refine Good.run (by kernel_rfl) (stop := 1000) 1000 _ ?_
  refine Good.callv (fun w1 hw h => rqfromInt_m (IntKind.i64.wrap (Y + y)) w1 (by omega) (by omega)) (by kernel_rfl) (fun d => ?_)
  refine Good.run (by kernel_rfl) (stop := 1000) 1000 _ ?_
  refine Good.callv (fun w1 hw h => radial_v (X := X) (Y := Y) (Z := Z) (v := v) (by omega) (by rw [w1x, w1y, radV_at hv hr, hfv]) (h.1.2.q.mono (by decide)) (h.2.q.mono (by decide))) (by kernel_rfl) (fun u => ?_)
  refine Good.run (by kernel_rfl) (stop := 1000) 1000 _ ?_
  refine Good.ret (v := .int .i64 v) (by kernel_rfl) (fun w1 hw h => ⟨(), rfl, hw, fun _ _ _ => trivial⟩)
theorem radV_bad (h : validP X Y = false ∨ ¬ (1 ≤ Z ∧ Z ≤ 1048576)) : radV X Y Z p q = 65536 := by
  unfold radV
  rw [if_neg]
  rintro ⟨h1, h2⟩
  rcases h with h | h
  · rw [h1] at h; cases h
  · exact h h2
theorem rad_r {k0 : Int} : ∃ r, IntKind.i64.wrap (1 + IntKind.i64.wrap ((IntKind.u64.wrap k0).tmod 1048576)) = r ∧ 1 ≤ r ∧ r ≤ 1048576 := by
  have h1 : 0 ≤ IntKind.u64.wrap k0 := (bounds_u64 (wf_wrap .u64 k0)).1
  have h2 : 0 ≤ (IntKind.u64.wrap k0).tmod 1048576 := Int.tmod_nonneg _ h1
  have h3 : (IntKind.u64.wrap k0).tmod 1048576 < 1048576 := Int.tmod_lt_of_pos _ (by decide)
  generalize (IntKind.u64.wrap k0).tmod 1048576 = t at *
  exact ⟨1 + t, by rw [IntWalk.i64_in t (by omega), IntWalk.i64_in _ (by omega)], by omega, by omega⟩
set_option maxRecDepth 100000 in
set_option maxHeartbeats 4000000 in
theorem lawSymmetry {k0 k1 k2 : Int} :
    Calls Try.prog 7 #[pt X Y, .agg #[.int .i64 k0, .int .i64 k1, .int .i64 k2]] w (CallPost w (fun _ : Unit => .bool true) fun _ _ => True) := by
  obtain ⟨r, hr, hr1, hr2⟩ := rad_r (k0 := k0)
  obtain ⟨x, hx⟩ : ∃ x, k1.tmod 10000000 = x := ⟨_, rfl⟩
  obtain ⟨y, hy⟩ : ∃ y, k2.tmod 10000000 = y := ⟨_, rfl⟩
  have bx : -10000000 < x ∧ x < 10000000 := by rw [← hx]; exact tmod_bd (by decide)
  have b_y : -10000000 < y ∧ y < 10000000 := by rw [← hy]; exact tmod_bd (by decide)
  have nr : IntKind.i64.wrap (0 - r) = -r := by rw [IntWalk.i64_in _ (by omega)]; omega
  have nx : IntKind.i64.wrap (0 - x) = -x := by rw [IntWalk.i64_in _ (by omega)]; omega
  have ny : IntKind.i64.wrap (0 - y) = -y := by rw [IntWalk.i64_in _ (by omega)]; omega
  have dx : IntKind.i64.wrap (2 * x) = 2 * x := IntWalk.i64_in _ (by omega)
  have dy : IntKind.i64.wrap (2 * y) = 2 * y := IntWalk.i64_in _ (by omega)
  obtain ⟨n, hn⟩ : ∃ n, clampI (rI r x y) = n := ⟨_, rfl⟩
  obtain ⟨t, ht⟩ : ∃ t, clampI (rI r (2 * x) (2 * y)) = t := ⟨_, rfl⟩
  have htw := rI_twice (x := x) (y := y) hr1
  have nb : 0 ≤ n ∧ n ≤ 1099511627776 ∧ (n ≤ 274877906944 → 2 * n ≤ t ∧ t ≤ 2 * n + 1) := by
    rw [← hn, ← ht]
    unfold clampI
    repeat' split
    all_goals omega
  refine Good.enter Try.func7 rfl ?_
  refine Good.run (by kernel_rfl) (stop := 1000) 1000 _ ?_
  refine Good.slot 5 (.int .i64 (IntKind.i64.wrap (1 + IntKind.i64.wrap ((IntKind.u64.wrap k0).tmod 1048576)))) (.int .i64 r) (by kernel_rfl) (by rw [hr]) ?_
  cases ha : validP X Y
  ·
    refine Good.callv (fun w1 hw h => rvalid_v ha) (by kernel_rfl) (fun u => ?_)
    refine Good.run (by kernel_rfl) (stop := 1000) 1000 _ ?_
    refine Good.runC (by kernel_rfl) (stop := 1000) 6000 _ ?_
    refine Good.callv (fun w1 hw h => rqfromInt_m 1 w1 (by decide) (by decide)) (by kernel_rfl) (fun c => ?_)
    refine Good.run (by kernel_rfl) (stop := 1000) 1000 _ ?_
    refine Good.callv (fun w1 hw h => rqfromInt_m 1 w1 (by decide) (by decide)) (by kernel_rfl) (fun d => ?_)
    refine Good.run (by kernel_rfl) (stop := 1000) 1000 _ ?_
    refine Good.callv (fun w1 hw h => radial_v (X := X) (Y := Y) (Z := r) (by omega) (radV_bad (.inl ha)) (h.1.2.q.mono (by decide)) (h.2.q.mono (by decide))) (by kernel_rfl) (fun u => ?_)
    refine Good.run (by kernel_rfl) (stop := 1000) 1000 _ ?_
    refine Good.callv (fun w1 hw h => gexample_m w1) (by kernel_rfl) (fun u => ?_)
    refine Good.run (by kernel_rfl) (stop := 1000) 1000 _ ?_
    refine Good.ret (v := .bool true) (by kernel_rfl) (fun w1 hw h => ⟨(), rfl, hw, fun _ _ _ => trivial⟩)
  refine Good.callv (fun w1 hw h => rvalid_v ha) (by kernel_rfl) (fun u => ?_)
  refine Good.run (by kernel_rfl) (stop := 1000) 1000 _ ?_
  refine Good.cond false (by kernel_rfl) ?_
  refine Good.run (by kernel_rfl) (stop := 1000) 1000 _ ?_
  refine Good.slot 6 (.int .i64 (k1.tmod 10000000)) (.int .i64 x) (by kernel_rfl) (by rw [hx]) ?_
  refine Good.slot 7 (.int .i64 (k2.tmod 10000000)) (.int .i64 y) (by kernel_rfl) (by rw [hy]) ?_
  refine Good.slot 36 (.int .i64 (k1.tmod 10000000)) (.int .i64 x) (by kernel_rfl) (by rw [hx]) ?_
  refine Good.slot 37 (.int .i64 (k2.tmod 10000000)) (.int .i64 y) (by kernel_rfl) (by rw [hy]) ?_
  have hrr : 1 ≤ r ∧ r ≤ 1048576 := ⟨hr1, hr2⟩
  refine Good.callv (fun w1 hw h => far_m (w := w1) (x := x) (y := y) ha hrr (by omega) (by omega) hn) (by kernel_rfl) (fun u => ?_)
  refine Good.run (by kernel_rfl) (stop := 1000) 1000 _ ?_
  refine Good.callv (fun w1 hw h => far_m (w := w1) (x := 0) (y := 0) (v := 0) ha hrr (by omega) (by omega) (by rw [rI_zero]; decide)) (by kernel_rfl) (fun u => ?_)
  refine Good.run (by kernel_rfl) (stop := 1000) 1000 _ ?_
  refine Good.callv (fun w1 hw h => far_m (w := w1) (x := r) (y := 0) (v := 65536) ha hrr (by omega) (by omega) (by rw [rI_one hr1 (by simp)]; decide)) (by kernel_rfl) (fun u => ?_)
  refine Good.run (by kernel_rfl) (stop := 1000) 1000 _ ?_
  refine Good.callv (fun w1 hw h => far_m (w := w1) (x := 0) (y := IntKind.i64.wrap (0 - r)) (v := 65536) ha hrr (by omega) (by omega) (by rw [nr, rI_one hr1 (by simp)]; decide)) (by kernel_rfl) (fun u => ?_)
  refine Good.run (by kernel_rfl) (stop := 22) 1000 _ ?_
  refine Good.slot 60 (.bool (decide (n < 0))) (.bool false) (by kernel_rfl) (by rw [decide_eq_false (by omega)]) ?_
  refine Good.run (by kernel_rfl) (stop := 1000) 1000 _ ?_
  refine Good.callv (fun w1 hw h => far_m (w := w1) (x := IntKind.i64.wrap (0 - x)) (y := IntKind.i64.wrap (0 - y)) (v := n) ha hrr (by omega) (by omega) (by rw [nx, ny, rI_cong (u := x) (v := y) (by simp)]; exact hn)) (by kernel_rfl) (fun u => ?_)
  refine Good.run (by kernel_rfl) (stop := 33) 1000 _ ?_
  refine Good.slot 71 (.bool (n != n)) (.bool false) (by kernel_rfl) (by simp) ?_
  refine Good.run (by kernel_rfl) (stop := 1000) 1000 _ ?_
  refine Good.callv (fun w1 hw h => far_m (w := w1) (x := IntKind.i64.wrap (0 - y)) (y := x) (v := n) ha hrr (by omega) (by omega) (by rw [ny, rI_cong (u := x) (v := y) (by simp; omega)]; exact hn)) (by kernel_rfl) (fun u => ?_)
  refine Good.run (by kernel_rfl) (stop := 43) 1000 _ ?_
  refine Good.slot 81 (.bool (n != n)) (.bool false) (by kernel_rfl) (by simp) ?_
  refine Good.run (by kernel_rfl) (stop := 1000) 1000 _ ?_
  refine Good.callv (fun w1 hw h => far_m (w := w1) (x := y) (y := x) (v := n) ha hrr (by omega) (by omega) (by rw [rI_cong (u := x) (v := y) (by omega)]; exact hn)) (by kernel_rfl) (fun u => ?_)
  refine Good.run (by kernel_rfl) (stop := 52) 1000 _ ?_
  refine Good.slot 90 (.bool (n != n)) (.bool false) (by kernel_rfl) (by simp) ?_
  refine Good.runC (by kernel_rfl) (stop := 1000) 6000 _ ?_
  refine Good.callv (fun w1 hw h => far_m (w := w1) (x := IntKind.i64.wrap (2 * x)) (y := IntKind.i64.wrap (2 * y)) (v := t) ha hrr (by omega) (by omega) (by rw [dx, dy]; exact ht)) (by kernel_rfl) (fun u => ?_)
  refine Good.run (by kernel_rfl) (stop := 2) 1000 _ ?_
  refine Good.fork 100 (decide (n > 274877906944)) (by kernel_rfl) (fun hc => ?_) (fun hc => ?_)
  ·
    refine Good.run (by kernel_rfl) (stop := 1000) 1000 _ ?_
    refine Good.callv (fun w1 hw h => rqfromInt_m x w1 (by omega) (by omega)) (by kernel_rfl) (fun c => ?_)
    refine Good.run (by kernel_rfl) (stop := 1000) 1000 _ ?_
    refine Good.callv (fun w1 hw h => rqfromInt_m y w1 (by omega) (by omega)) (by kernel_rfl) (fun d => ?_)
    refine Good.run (by kernel_rfl) (stop := 1000) 1000 _ ?_
    refine Good.callv (fun w1 hw h => radial_v (X := X) (Y := Y) (Z := 0) (by decide) (radV_bad (.inr (by decide))) (h.1.2.q.mono (by decide)) (h.2.q.mono (by decide))) (by kernel_rfl) (fun u => ?_)
    refine Good.run (by kernel_rfl) (stop := 1000) 1000 _ ?_
    refine Good.callv (fun w1 hw h => gexample_m w1) (by kernel_rfl) (fun u => ?_)
    refine Good.run (by kernel_rfl) (stop := 1000) 1000 _ ?_
    refine Good.ret (v := .bool true) (by kernel_rfl) (fun w1 hw h => ⟨(), rfl, hw, fun _ _ _ => trivial⟩)
  have hn2 := of_decide_eq_false hc
  have h2n := nb.2.2 (by omega)
  have w2 : IntKind.i64.wrap (2 * n) = 2 * n := IntWalk.i64_in _ (by omega)
  have w3 : IntKind.i64.wrap (2 * n + 1) = 2 * n + 1 := IntWalk.i64_in _ (by omega)
  refine Good.run (by kernel_rfl) (stop := 7) 1000 _ ?_
  refine Good.slot 105 (.bool (decide (t ≥ IntKind.i64.wrap (2 * n)))) (.bool true) (by kernel_rfl) (by rw [w2, decide_eq_true h2n.1]) ?_
  refine Good.run (by kernel_rfl) (stop := 13) 1000 _ ?_
  refine Good.slot 111 (.bool (decide (t ≤ IntKind.i64.wrap (IntKind.i64.wrap (2 * n) + 1)))) (.bool true) (by kernel_rfl) (by rw [w2, w3, decide_eq_true h2n.2]) ?_
  refine Good.run (by kernel_rfl) (stop := 1000) 1000 _ ?_
  refine Good.callv (fun w1 hw h => rqfromInt_m x w1 (by omega) (by omega)) (by kernel_rfl) (fun c => ?_)
  refine Good.run (by kernel_rfl) (stop := 1000) 1000 _ ?_
  refine Good.callv (fun w1 hw h => rqfromInt_m y w1 (by omega) (by omega)) (by kernel_rfl) (fun d => ?_)
  refine Good.run (by kernel_rfl) (stop := 1000) 1000 _ ?_
  refine Good.callv (fun w1 hw h => radial_v (X := X) (Y := Y) (Z := 0) (by decide) (radV_bad (.inr (by decide))) (h.1.2.q.mono (by decide)) (h.2.q.mono (by decide))) (by kernel_rfl) (fun u => ?_)
  refine Good.run (by kernel_rfl) (stop := 1000) 1000 _ ?_
  refine Good.callv (fun w1 hw h => gexample_m w1) (by kernel_rfl) (fun u => ?_)
  refine Good.run (by kernel_rfl) (stop := 1000) 1000 _ ?_
  refine Good.ret (v := .bool true) (by kernel_rfl) (fun w1 hw h => ⟨(), rfl, hw, fun _ _ _ => trivial⟩)
end

def shI : Sh := .cons 1 .bool (.cons 1 .dig .nil)
theorem rd_I {w : World} {cs : List Value} (h : Rd w shI cs) : ∃ v : SV, cs = [.bool v.s, .slice v.A v.n v.c] ∧ In w v.A v.n v.c v.l := by
  obtain ⟨a1, b1, rfl, _, ⟨s1, rfl⟩, a2, b2, rfl, _, ⟨A1, n1, c1, l1, rfl, i1⟩, rfl⟩ := h
  exact ⟨⟨s1, A1, n1, c1, l1⟩, rfl, i1⟩
def sh2 (n : Nat) (s : Sh) : Sh := .cons n s (.cons n s .nil)
theorem rd_2 {w : World} {n : Nat} {s : Sh} {cs : List Value} (h : Rd w (sh2 n s) cs) : ∃ a b, cs = a ++ b ∧ Rd w s a ∧ Rd w s b := by
  obtain ⟨a, b, rfl, _, h1, c, d, rfl, _, h2, rfl⟩ := h
  exact ⟨a, c, by simp, h1, h2⟩
section
variable {w : World} {x0 x1 x2 : List Value}
theorem rowClamp (h0 : Rd w shI x0) (h1 : Rd w shI x1) : Calls Try.prog 5 #[.agg x0.toArray, .agg x1.toArray] w fun e w' => e = .returned (.bool true) ∧ Below w.heap.size w w' := by
  obtain ⟨a, rfl, ia⟩ := rd_I h0
  obtain ⟨b, rfl, ib⟩ := rd_I h1
  exact (lawClamp ia ib).mono fun _ _ h => law_end h
theorem rowLinear (h0 : Rd w (sh2 2 shPt) x0) (h1 : Rd w (sh2 4 shRat) x1) : Calls Try.prog 3 #[.agg x0.toArray, .agg x1.toArray] w fun e w' => e = .returned (.bool true) ∧ Below w.heap.size w w' := by
  obtain ⟨a, b, rfl, ha, hb⟩ := rd_2 h0
  obtain ⟨c, d, rfl, hc, hd⟩ := rd_2 h1
  obtain ⟨X, Y, rfl, _⟩ := rd_pt ha
  obtain ⟨U, V, rfl, _⟩ := rd_pt hb
  obtain ⟨r, rfl, i1, j1⟩ := rd_rat hc
  obtain ⟨s, rfl, i2, j2⟩ := rd_rat hd
  exact (lawLinear i1 j1 i2 j2).mono fun _ _ h => law_end h
theorem rowRadial {Z : Int} (h0 : Rd w shPt x0) (hZ : (Lit.int .i64 Z).wf = true) (h1 : Rd w (sh2 4 shRat) x1) : Calls Try.prog 4 #[.agg x0.toArray, .int .i64 Z, .agg x1.toArray] w fun e w' => e = .returned (.bool true) ∧ Below w.heap.size w w' := by
  obtain ⟨X, Y, rfl, _⟩ := rd_pt h0
  obtain ⟨c, d, rfl, hc, hd⟩ := rd_2 h1
  obtain ⟨r, rfl, i1, j1⟩ := rd_rat hc
  obtain ⟨s, rfl, i2, j2⟩ := rd_rat hd
  exact (lawRadial (i64_wf hZ) i1 j1 i2 j2).mono fun _ _ h => law_end h
theorem rowTranslation (h0 : Rd w (sh2 2 shPt) x0) (h2 : Rd w shPt x2) (h1 : Rd w (sh2 4 shRat) x1) : Calls Try.prog 8 #[.agg x0.toArray, .agg x2.toArray, .agg x1.toArray] w fun e w' => e = .returned (.bool true) ∧ Below w.heap.size w w' := by
  obtain ⟨a, b, rfl, ha, hb⟩ := rd_2 h0
  obtain ⟨c, d, rfl, hc, hd⟩ := rd_2 h1
  obtain ⟨X, Y, rfl, _⟩ := rd_pt ha
  obtain ⟨U, V, rfl, _⟩ := rd_pt hb
  obtain ⟨A, B, rfl, _⟩ := rd_pt h2
  obtain ⟨r, rfl, i1, j1⟩ := rd_rat hc
  obtain ⟨s, rfl, i2, j2⟩ := rd_rat hd
  exact (lawTranslation i1 j1 i2 j2).mono fun _ _ h => law_end h
theorem rowMonotone (h0 : Rd w shPt x0) (h1 : Rd w shPt x1) (h2 : Rd w shPt x2) : Calls Try.prog 6 #[.agg x0.toArray, .agg x1.toArray, .agg x2.toArray] w fun e w' => e = .returned (.bool true) ∧ Below w.heap.size w w' := by
  obtain ⟨X, Y, rfl, hX, hY⟩ := rd_pt h0
  obtain ⟨U, V, rfl, _⟩ := rd_pt h1
  obtain ⟨k, l, rfl, _⟩ := rd_pt h2
  exact (lawMonotone hX hY).mono fun _ _ h => law_end h
theorem rowSymmetry (h0 : Rd w shPt x0) (h1 : Rd w (.cons 1 (.int .i64) shPt) x1) : Calls Try.prog 7 #[.agg x0.toArray, .agg x1.toArray] w fun e w' => e = .returned (.bool true) ∧ Below w.heap.size w w' := by
  obtain ⟨X, Y, rfl, hX, hY⟩ := rd_pt h0
  obtain ⟨k, t, rfl, _, h1⟩ := rd_int h1
  obtain ⟨l, m, rfl, _⟩ := rd_pt h1
  exact lawSymmetry.mono fun _ _ h => law_end h
end

end Go.Proofs.Ytegnbgckejebgaa
