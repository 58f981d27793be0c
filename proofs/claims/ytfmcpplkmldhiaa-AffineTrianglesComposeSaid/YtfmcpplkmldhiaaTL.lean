/-
  Transforms: the laws.
-/
import Derived.Test.YtfmcpplkmldhiaaTP
import Derived.Test.YtfmcpplkmldhiaaRx
namespace Go.Proofs.Ytfmcpplkmldhiaa
set_option linter.unusedVariables false
set_option linter.unusedSimpArgs false
open Go.RowKit

structure InT (t : TV) (w : World) : Prop where
  a : InR t.a w
  b : InR t.b w
  c : InR t.c w
  d : InR t.d w
  e : InR t.e w
  f : InR t.f w
theorem rd_aff {w : World} {cs : List Value} (h : Rd w shAff cs) : ∃ t : TV, cs = t.cl ∧ InT t w := by
  obtain ⟨_, _, rfl, _, h1, h⟩ := rd_cons h
  obtain ⟨_, _, rfl, _, h2, h⟩ := rd_cons h
  obtain ⟨_, _, rfl, _, h3, h⟩ := rd_cons h
  obtain ⟨_, _, rfl, _, h4, h⟩ := rd_cons h
  obtain ⟨_, _, rfl, _, h5, h⟩ := rd_cons h
  obtain ⟨_, _, rfl, _, h6, h⟩ := rd_cons h
  obtain rfl := h
  obtain ⟨a, rfl, ia⟩ := rd_rat' h1
  obtain ⟨b, rfl, ib⟩ := rd_rat' h2
  obtain ⟨c, rfl, ic⟩ := rd_rat' h3
  obtain ⟨d, rfl, id⟩ := rd_rat' h4
  obtain ⟨e, rfl, ie⟩ := rd_rat' h5
  obtain ⟨f, rfl, if_⟩ := rd_rat' h6
  exact ⟨⟨a, b, c, d, e, f⟩, by simp [TV.cl], ia, ib, ic, id, ie, if_⟩
section
variable {w : World} {t u : TV} {T U : Aff} {K K1 K2 : Nat} {r s : RV} {p q : Rat} {X Y : Int}
theorem inr_q (h : InR r w) (h1 : decide (r.a.n ≤ 20) = true) (h2 : decide (r.b.n ≤ 20) = true) : ∃ q, IsQ r q 20 w := ⟨_, _, _, of_in h.1 (of_decide_eq_true h1), of_in h.2 (of_decide_eq_true h2), rfl⟩
theorem smallT_a (h : smallT t = true) (i : InT t w) : ∃ T, IsA t T 20 w := by
  unfold smallT at h
  simp only [Bool.and_eq_true] at h
  obtain ⟨a1, a2, b1, b2, c1, c2, d1, d2, e1, e2, f1, f2⟩ := h
  obtain ⟨a, ha⟩ := inr_q i.a a1 a2
  obtain ⟨b, hb⟩ := inr_q i.b b1 b2
  obtain ⟨c, hc⟩ := inr_q i.c c1 c2
  obtain ⟨d, hd⟩ := inr_q i.d d1 d2
  obtain ⟨e, he⟩ := inr_q i.e e1 e2
  obtain ⟨f, hf⟩ := inr_q i.f f1 f2
  exact ⟨⟨a, b, c, d, e, f⟩, ha, hb, hc, hd, he, hf⟩
theorem smallT_r (h : smallT ⟨r, s, RV0, RV0, RV0, RV0⟩ = true) (i : InR r w) (j : InR s w) : (∃ p, IsQ r p 20 w) ∧ ∃ q, IsQ s q 20 w := by
  unfold smallT at h
  simp only [Bool.and_eq_true] at h
  exact ⟨inr_q i h.1 h.2.1, inr_q j h.2.2.1 h.2.2.2.1⟩
theorem apply_v {A B e : Int} (hP : atP T X Y = pt A B) (he : atE T X Y = e) (ht : IsA t T K w) (hK : 8 ≤ K ∧ K ≤ 10000) : Calls Try.prog 13 #[t.val, pt X Y] w (CallPost w (fun _ : Unit => .tuple #[pt A B, .int .i64 e]) fun _ _ => True) := by
  have := apply_m (X := X) (Y := Y) ht hK
  rwa [hP, he] at this
theorem rapply_v {A B e : Int} (hP : atP T X Y = pt A B) (he : atE T X Y = e) (ht : IsA t T K w) (hK : 8 ≤ K ∧ K ≤ 10000) : Calls Try.prog 14 #[t.val, pt X Y] w (CallPost w (fun _ : Unit => .tuple #[pt A B, .int .i64 e]) fun _ _ => True) := by
  have := rapply_m (X := X) (Y := Y) ht hK
  rwa [hP, he] at this
theorem atP_ex (T : Aff) (X Y : Int) : ∃ A B, atP T X Y = pt A B := by unfold atP; split <;> exact ⟨_, _, rfl⟩
theorem atE_or (T : Aff) (X Y : Int) : atE T X Y = 0 ∨ atE T X Y = 5 ∨ atE T X Y = 6 := by
  unfold atE
  repeat' split
  all_goals simp
def exT : Aff := { affId with a := Rat.divInt 1 2, d := Rat.divInt 1 2 }
theorem ex1 : atP exT 3 (-3) = pt 2 (-1) ∧ atE exT 3 (-3) = 0 := by
  have h : atE exT 3 (-3) = 0 := by decide +kernel
  have h1 : atX exT 3 (-3) = 2 := by decide +kernel
  have h2 : atY exT 3 (-3) = -1 := by decide +kernel
  exact ⟨by unfold atP; rw [if_pos h, h1, h2], h⟩
theorem ex2 : atP (qtA (1 % 4)) 3 5 = pt (-5) 3 ∧ atE (qtA (1 % 4)) 3 5 = 0 := by
  have h : atE (qtA (1 % 4)) 3 5 = 0 := by decide +kernel
  have h1 : atX (qtA (1 % 4)) 3 5 = -5 := by decide +kernel
  have h2 : atY (qtA (1 % 4)) 3 5 = 3 := by decide +kernel
  exact ⟨by unfold atP; rw [if_pos h, h1, h2], h⟩
set_option maxRecDepth 100000 in
set_option maxHeartbeats 2000000 in
theorem tex_m (w : World) : Calls Try.prog 10 #[] w (CallPost w (fun _ : Unit => .bool true) fun _ _ => True) := by
  refine Good.enter Try.func10 rfl ?_
  refine Good.run (by kernel_rfl) (stop := 1000) 1000 _ ?_
  refine Good.callv (fun w1 hw h => rqfromInts_m (x := 1) (y := 2) (by decide) (by decide)) (by kernel_rfl) (fun f => ?_)
  refine Good.run (by kernel_rfl) (stop := 1000) 1000 _ ?_
  refine Good.callv (fun w1 hw h => scale_m (h.2.n (by decide)).q (h.2.n (by decide)).q (by decide)) (by kernel_rfl) (fun s => ?_)
  refine Good.run (by kernel_rfl) (stop := 1000) 1000 _ ?_
  refine Good.callv (fun w1 hw h => apply_v (X := 3) (Y := -3) ex1.1 ex1.2 (h.2.q.mono (show 2 ≤ 8 by decide)) (by decide)) (by kernel_rfl) (fun u => ?_)
  refine Good.run (by kernel_rfl) (stop := 1000) 1000 _ ?_
  refine Good.callv (fun w1 hw h => qt_m (n := 1)) (by kernel_rfl) (fun k => ?_)
  refine Good.run (by kernel_rfl) (stop := 1000) 1000 _ ?_
  refine Good.callv (fun w1 hw h => apply_v (X := 3) (Y := 5) ex2.1 ex2.2 (h.2.q.mono (show 2 ≤ 8 by decide)) (by decide)) (by kernel_rfl) (fun u => ?_)
  refine Good.run (by kernel_rfl) (stop := 2) 1000 _ ?_
  refine Good.run (by kernel_rfl) (stop := 1000) 100 _ ?_
  refine Good.ret (v := .bool true) (by kernel_rfl) (fun w1 hw h => ⟨(), rfl, hw, fun _ _ _ => trivial⟩)
end

section
variable {w : World} {t u : TV} {T U : Aff} {K K1 K2 : Nat} {r s : RV} {p q : Rat} {X Y : Int}
theorem fields_e (h1 : IsAN t T K1 w) (h2 : IsAN u T K2 w) : Calls Try.prog 16 #[t.val, u.val] w (CallPost w (fun _ : Unit => .bool true) fun _ _ => True) := fieldsN_m eqA_rfl h1 h2
set_option maxRecDepth 100000 in
set_option maxHeartbeats 4000000 in
theorem lawConstructors {n : Int} (i1 : InR r w) (i2 : InR s w) : Calls Try.prog 4 #[r.val, s.val, .int .i64 n] w (CallPost w (fun _ : Unit => .bool true) fun _ _ => True) := by
  refine Good.enter Try.func4 rfl ?_
  refine Good.run (by kernel_rfl) (stop := 1000) 1000 _ ?_
  cases hS : smallT ⟨r, s, RV0, RV0, RV0, RV0⟩
  ·
    refine Good.callv (fun w1 hw h => smallA_v hS) (by kernel_rfl) (fun u => ?_)
    refine Good.run (by kernel_rfl) (stop := 1000) 1000 _ ?_
    refine Good.runC (by kernel_rfl) (stop := 1000) 6000 _ ?_
    refine Good.callv (fun w1 hw h => tex_m w1) (by kernel_rfl) (fun u => ?_)
    refine Good.run (by kernel_rfl) (stop := 1000) 1000 _ ?_
    refine Good.ret (v := .bool true) (by kernel_rfl) (fun w1 hw h => ⟨(), rfl, hw, fun _ _ _ => trivial⟩)
  obtain ⟨⟨p, h1⟩, q, h2⟩ := smallT_r hS i1 i2
  refine Good.callv (fun w1 hw h => smallA_v hS) (by kernel_rfl) (fun u => ?_)
  refine Good.run (by kernel_rfl) (stop := 1000) 1000 _ ?_
  refine Good.cond false (by kernel_rfl) ?_
  refine Good.run (by kernel_rfl) (stop := 1000) 1000 _ ?_
  refine Good.callv (fun w1 hw h => identity_m) (by kernel_rfl) (fun a => ?_)
  refine Good.run (by kernel_rfl) (stop := 1000) 1000 _ ?_
  refine Good.callv (fun w1 hw h => ridentity_m) (by kernel_rfl) (fun b => ?_)
  refine Good.run (by kernel_rfl) (stop := 1000) 1000 _ ?_
  refine Good.callv (fun w1 hw h => fields_e h.1.2 h.2) (by kernel_rfl) (fun u => ?_)
  refine Good.run (by kernel_rfl) (stop := 1000) 1000 _ ?_
  refine Good.callv (fun w1 hw h => translate_m (h1.below hw) (h2.below hw) (by decide)) (by kernel_rfl) (fun a2 => ?_)
  refine Good.run (by kernel_rfl) (stop := 1000) 1000 _ ?_
  refine Good.callv (fun w1 hw h => rtranslate_m (h1.below hw) (h2.below hw) (by decide)) (by kernel_rfl) (fun b2 => ?_)
  refine Good.run (by kernel_rfl) (stop := 1000) 1000 _ ?_
  refine Good.callv (fun w1 hw h => fields_e h.1.2 h.2) (by kernel_rfl) (fun u => ?_)
  refine Good.run (by kernel_rfl) (stop := 1000) 1000 _ ?_
  refine Good.callv (fun w1 hw h => scale_m (h1.below hw) (h2.below hw) (by decide)) (by kernel_rfl) (fun a3 => ?_)
  refine Good.run (by kernel_rfl) (stop := 1000) 1000 _ ?_
  refine Good.callv (fun w1 hw h => rscale_m (h1.below hw) (h2.below hw) (by decide)) (by kernel_rfl) (fun b3 => ?_)
  refine Good.run (by kernel_rfl) (stop := 1000) 1000 _ ?_
  refine Good.callv (fun w1 hw h => fields_e h.1.2 h.2) (by kernel_rfl) (fun u => ?_)
  refine Good.run (by kernel_rfl) (stop := 1000) 1000 _ ?_
  refine Good.callv (fun w1 hw h => skew_m (h1.below hw) (h2.below hw) (by decide)) (by kernel_rfl) (fun a4 => ?_)
  refine Good.run (by kernel_rfl) (stop := 1000) 1000 _ ?_
  refine Good.callv (fun w1 hw h => rskew_m (h1.below hw) (h2.below hw) (by decide)) (by kernel_rfl) (fun b4 => ?_)
  refine Good.run (by kernel_rfl) (stop := 1000) 1000 _ ?_
  refine Good.callv (fun w1 hw h => fields_e h.1.2 h.2) (by kernel_rfl) (fun u => ?_)
  refine Good.run (by kernel_rfl) (stop := 1000) 1000 _ ?_
  refine Good.callv (fun w1 hw h => qt_m (n := n)) (by kernel_rfl) (fun a5 => ?_)
  refine Good.run (by kernel_rfl) (stop := 1000) 1000 _ ?_
  refine Good.callv (fun w1 hw h => rqt_m (n := n)) (by kernel_rfl) (fun b5 => ?_)
  refine Good.run (by kernel_rfl) (stop := 1000) 1000 _ ?_
  refine Good.callv (fun w1 hw h => fields_e h.1.2 h.2) (by kernel_rfl) (fun u => ?_)
  refine Good.run (by kernel_rfl) (stop := 1000) 1000 _ ?_
  refine Good.callv (fun w1 hw h => tex_m w1) (by kernel_rfl) (fun u => ?_)
  refine Good.run (by kernel_rfl) (stop := 1000) 1000 _ ?_
  refine Good.ret (v := .bool true) (by kernel_rfl) (fun w1 hw h => ⟨(), rfl, hw, fun _ _ _ => trivial⟩)
set_option maxRecDepth 100000 in
set_option maxHeartbeats 4000000 in
theorem lawApply (it : InT t w) (i1 : InR r w) (i2 : InR s w) : Calls Try.prog 3 #[t.val, .agg (r.cl ++ (s.cl ++ [Value.int .i64 X, Value.int .i64 Y])).toArray] w (CallPost w (fun _ : Unit => .bool true) fun _ _ => True) := by
  refine Good.enter Try.func3 rfl ?_
  refine Good.run (by kernel_rfl) (stop := 1000) 1000 _ ?_
  cases hT : smallT t
  ·
    refine Good.callv (fun w1 hw h => smallA_v hT) (by kernel_rfl) (fun u => ?_)
    refine Good.run (by kernel_rfl) (stop := 1000) 1000 _ ?_
    refine Good.runC (by kernel_rfl) (stop := 1000) 6000 _ ?_
    refine Good.callv (fun w1 hw h => tex_m w1) (by kernel_rfl) (fun u => ?_)
    refine Good.run (by kernel_rfl) (stop := 1000) 1000 _ ?_
    refine Good.ret (v := .bool true) (by kernel_rfl) (fun w1 hw h => ⟨(), rfl, hw, fun _ _ _ => trivial⟩)
  obtain ⟨T, ht⟩ := smallT_a hT it
  refine Good.callv (fun w1 hw h => smallA_v hT) (by kernel_rfl) (fun u => ?_)
  refine Good.run (by kernel_rfl) (stop := 1000) 1000 _ ?_
  cases hS : smallT ⟨r, s, RV0, RV0, RV0, RV0⟩
  ·
    refine Good.callv (fun w1 hw h => smallA_v hS) (by kernel_rfl) (fun u => ?_)
    refine Good.run (by kernel_rfl) (stop := 1000) 1000 _ ?_
    refine Good.runC (by kernel_rfl) (stop := 1000) 6000 _ ?_
    refine Good.callv (fun w1 hw h => tex_m w1) (by kernel_rfl) (fun u => ?_)
    refine Good.run (by kernel_rfl) (stop := 1000) 1000 _ ?_
    refine Good.ret (v := .bool true) (by kernel_rfl) (fun w1 hw h => ⟨(), rfl, hw, fun _ _ _ => trivial⟩)
  obtain ⟨⟨p, h1⟩, q, h2⟩ := smallT_r hS i1 i2
  refine Good.callv (fun w1 hw h => smallA_v hS) (by kernel_rfl) (fun u => ?_)
  refine Good.run (by kernel_rfl) (stop := 1000) 1000 _ ?_
  refine Good.cond false (by kernel_rfl) ?_
  refine Good.run (by kernel_rfl) (stop := 1000) 1000 _ ?_
  refine Good.callv (fun w1 hw h => applyE_m (ht.below hw) (h1.below hw) (h2.below hw) (by decide)) (by kernel_rfl) (fun x => ?_)
  refine Good.run (by kernel_rfl) (stop := 1000) 1000 _ ?_
  refine Good.callv (fun w1 hw h => rapplyE_m (ht.below hw) (h1.below hw) (h2.below hw) (by decide)) (by kernel_rfl) (fun y => ?_)
  refine Good.run (by kernel_rfl) (stop := 1000) 1000 _ ?_
  obtain ⟨A, B, hP⟩ := atP_ex T X Y
  obtain ⟨e, he⟩ : ∃ e, atE T X Y = e := ⟨_, rfl⟩
  refine Good.callv (fun w1 hw h => apply_v hP he (ht.below hw) (by decide)) (by kernel_rfl) (fun u => ?_)
  refine Good.run (by kernel_rfl) (stop := 1000) 1000 _ ?_
  refine Good.callv (fun w1 hw h => rapply_v hP he (ht.below hw) (by decide)) (by kernel_rfl) (fun u => ?_)
  refine Good.run (by kernel_rfl) (stop := 1000) 1000 _ ?_
  refine Good.callv (fun w1 hw h => rsame_nn (B := true) h.1.1.1.2.1 h.1.1.2.1 (by simp)) (by kernel_rfl) (fun u => ?_)
  refine Good.run (by kernel_rfl) (stop := 1000) 1000 _ ?_
  refine Good.callv (fun w1 hw h => rsame_nn (B := true) h.1.1.1.1.2.2 h.1.1.1.2.2 (by simp)) (by kernel_rfl) (fun u => ?_)
  refine Good.run (by kernel_rfl) (stop := 11) 1000 _ ?_
  refine Good.ask (eqP 30 (.tmp 67) (.tmp 68) (pt A B) (pt A B)) (.bool true) (by kernel_rfl) (fun w1 hw h => by rw [run_eqP]; simp) ?_
  refine Good.run (by kernel_rfl) (stop := 16) 1000 _ ?_
  refine Good.run (by kernel_rfl) (stop := 1000) 1 _ ?_
  refine Good.slot 74 (.bool (e == e)) (.bool true) (by kernel_rfl) (by simp) ?_
  refine Good.run (by kernel_rfl) (stop := 1000) 1000 _ ?_
  refine Good.callv (fun w1 hw h => tex_m w1) (by kernel_rfl) (fun u => ?_)
  refine Good.run (by kernel_rfl) (stop := 1000) 1000 _ ?_
  refine Good.ret (v := .bool true) (by kernel_rfl) (fun w1 hw h => ⟨(), rfl, hw, fun _ _ _ => trivial⟩)
theorem row_three {w : World} {g : Nat} {ty : TypeId} {t u v : TV} {T U V : Aff} {K : Nat} (h : litG ty ([t, u, v].flatMap TV.cl).toArray g w) (h1 : IsA t T K w) (h2 : IsA u U K w) (h3 : IsA v V K w) : RowT w (some ⟨g, 0, none⟩) 3 [t, u, v] [T, U, V] K := by
  refine rowT_box ⟨_, h⟩ rfl rfl ?_
  intro k s S hk hS
  match k, hk, hS with
  | 0, hk, hS => obtain rfl : t = s := by simpa using hk
                 obtain rfl : T = S := by simpa using hS
                 exact h1
  | 1, hk, hS => obtain rfl : u = s := by simpa using hk
                 obtain rfl : U = S := by simpa using hS
                 exact h2
  | 2, hk, hS => obtain rfl : v = s := by simpa using hk
                 obtain rfl : V = S := by simpa using hS
                 exact h3
theorem ne_f {e : Int} (h : (e != 0) = false) : e = 0 := by simpa using h
set_option maxRecDepth 100000 in
set_option maxHeartbeats 4000000 in
theorem lawCompose {a b c : TV} (ia : InT a w) (ib : InT b w) (ic : InT c w) (i1 : InR r w) (i2 : InR s w) :
    Calls Try.prog 5 #[.agg (a.cl ++ (b.cl ++ c.cl)).toArray, .agg (r.cl ++ (s.cl ++ [Value.int .i64 X, Value.int .i64 Y])).toArray] w (CallPost w (fun _ : Unit => .bool true) fun _ _ => True) := by
  refine Good.enter Try.func5 rfl ?_
  refine Good.run (by kernel_rfl) (stop := 1000) 1000 _ ?_
  cases hsa : smallT a
  ·
    refine Good.callv (fun w1 hw h => smallA_v hsa) (by kernel_rfl) (fun u => ?_)
    refine Good.run (by kernel_rfl) (stop := 1000) 1000 _ ?_
    refine Good.runC (by kernel_rfl) (stop := 1000) 6000 _ ?_
    refine Good.callv (fun w1 hw h => tex_m w1) (by kernel_rfl) (fun u => ?_)
    refine Good.run (by kernel_rfl) (stop := 1000) 1000 _ ?_
    refine Good.ret (v := .bool true) (by kernel_rfl) (fun w1 hw h => ⟨(), rfl, hw, fun _ _ _ => trivial⟩)
  obtain ⟨A, ha⟩ := smallT_a hsa ia
  refine Good.callv (fun w1 hw h => smallA_v hsa) (by kernel_rfl) (fun u => ?_)
  refine Good.run (by kernel_rfl) (stop := 1000) 1000 _ ?_
  cases hsb : smallT b
  ·
    refine Good.callv (fun w1 hw h => smallA_v hsb) (by kernel_rfl) (fun u => ?_)
    refine Good.run (by kernel_rfl) (stop := 1000) 1000 _ ?_
    refine Good.runC (by kernel_rfl) (stop := 1000) 6000 _ ?_
    refine Good.callv (fun w1 hw h => tex_m w1) (by kernel_rfl) (fun u => ?_)
    refine Good.run (by kernel_rfl) (stop := 1000) 1000 _ ?_
    refine Good.ret (v := .bool true) (by kernel_rfl) (fun w1 hw h => ⟨(), rfl, hw, fun _ _ _ => trivial⟩)
  obtain ⟨B, hb⟩ := smallT_a hsb ib
  refine Good.callv (fun w1 hw h => smallA_v hsb) (by kernel_rfl) (fun u => ?_)
  refine Good.run (by kernel_rfl) (stop := 1000) 1000 _ ?_
  cases hsc : smallT c
  ·
    refine Good.callv (fun w1 hw h => smallA_v hsc) (by kernel_rfl) (fun u => ?_)
    refine Good.run (by kernel_rfl) (stop := 1000) 1000 _ ?_
    refine Good.runC (by kernel_rfl) (stop := 1000) 6000 _ ?_
    refine Good.callv (fun w1 hw h => tex_m w1) (by kernel_rfl) (fun u => ?_)
    refine Good.run (by kernel_rfl) (stop := 1000) 1000 _ ?_
    refine Good.ret (v := .bool true) (by kernel_rfl) (fun w1 hw h => ⟨(), rfl, hw, fun _ _ _ => trivial⟩)
  obtain ⟨C, hc⟩ := smallT_a hsc ic
  refine Good.callv (fun w1 hw h => smallA_v hsc) (by kernel_rfl) (fun u => ?_)
  refine Good.run (by kernel_rfl) (stop := 1000) 1000 _ ?_
  cases hS : smallT ⟨r, s, RV0, RV0, RV0, RV0⟩
  ·
    refine Good.callv (fun w1 hw h => smallA_v hS) (by kernel_rfl) (fun u => ?_)
    refine Good.run (by kernel_rfl) (stop := 1000) 1000 _ ?_
    refine Good.runC (by kernel_rfl) (stop := 1000) 6000 _ ?_
    refine Good.callv (fun w1 hw h => tex_m w1) (by kernel_rfl) (fun u => ?_)
    refine Good.run (by kernel_rfl) (stop := 1000) 1000 _ ?_
    refine Good.ret (v := .bool true) (by kernel_rfl) (fun w1 hw h => ⟨(), rfl, hw, fun _ _ _ => trivial⟩)
  obtain ⟨⟨p, h1⟩, q, h2⟩ := smallT_r hS i1 i2
  refine Good.callv (fun w1 hw h => smallA_v hS) (by kernel_rfl) (fun u => ?_)
  refine Good.run (by kernel_rfl) (stop := 1000) 1000 _ ?_
  refine Good.cond false (by kernel_rfl) ?_
  refine Good.run (by kernel_rfl) (stop := 3) 1000 _ ?_
  obtain ⟨e1, he1⟩ : ∃ e, compE [A, B, C] = e := ⟨_, rfl⟩
  obtain ⟨e2, he2⟩ : ∃ e, compE [A, B] = e := ⟨_, rfl⟩
  obtain ⟨e3, he3⟩ : ∃ e, compE [B, C] = e := ⟨_, rfl⟩
  refine Good.make (litS 58 3 #[(0, a.val), (1, b.val), (2, c.val)]) (litV 3) (litG 28 ([a, b, c].flatMap TV.cl).toArray) (by kernel_rfl) (fun w1 hw h => make_lit (by kernel_rfl)) (fun g1 => ?_)
  refine Good.run (by kernel_rfl) (stop := 1000) 1000 _ ?_
  refine Good.callv (fun w1 hw h => compose_v (c := 3) he1 (row_three h.2 (ha.below hw) (hb.below hw) (hc.below hw)) (by decide) (by decide)) (by kernel_rfl) (fun v1 => ?_)
  refine Good.run (by kernel_rfl) (stop := 2) 1000 _ ?_
  refine Good.make (litS 58 2 #[(0, a.val), (1, b.val)]) (litV 2) (litG 28 ([a, b].flatMap TV.cl).toArray) (by kernel_rfl) (fun w1 hw h => make_lit (by kernel_rfl)) (fun g2 => ?_)
  refine Good.run (by kernel_rfl) (stop := 1000) 1000 _ ?_
  refine Good.callv (fun w1 hw h => compose_v (c := 2) he2 (row_two h.2 (ha.below hw) (hb.below hw)) (by decide) (by decide)) (by kernel_rfl) (fun v2 => ?_)
  refine Good.run (by kernel_rfl) (stop := 2) 1000 _ ?_
  refine Good.make (litS 58 2 #[(0, b.val), (1, c.val)]) (litV 2) (litG 28 ([b, c].flatMap TV.cl).toArray) (by kernel_rfl) (fun w1 hw h => make_lit (by kernel_rfl)) (fun g3 => ?_)
  refine Good.run (by kernel_rfl) (stop := 1000) 1000 _ ?_
  refine Good.callv (fun w1 hw h => compose_v (c := 2) he3 (row_two h.2 (hb.below hw) (hc.below hw)) (by decide) (by decide)) (by kernel_rfl) (fun v3 => ?_)
  refine Good.run (by kernel_rfl) (stop := 2) 1000 _ ?_
  refine Good.fork 74 ((e1 != 0)) (by kernel_rfl) (fun hc => ?_) (fun hc => ?_)
  ·
    refine Good.runC (by kernel_rfl) (stop := 1000) 6000 _ ?_
    refine Good.callv (fun w1 hw h => tex_m w1) (by kernel_rfl) (fun u => ?_)
    refine Good.run (by kernel_rfl) (stop := 1000) 1000 _ ?_
    refine Good.ret (v := .bool true) (by kernel_rfl) (fun w1 hw h => ⟨(), rfl, hw, fun _ _ _ => trivial⟩)
  have z1 := ne_f hc
  clear hc
  refine Good.run (by kernel_rfl) (stop := 6) 1000 _ ?_
  refine Good.fork 78 ((e2 != 0)) (by kernel_rfl) (fun hc => ?_) (fun hc => ?_)
  ·
    refine Good.runC (by kernel_rfl) (stop := 1000) 6000 _ ?_
    refine Good.callv (fun w1 hw h => tex_m w1) (by kernel_rfl) (fun u => ?_)
    refine Good.run (by kernel_rfl) (stop := 1000) 1000 _ ?_
    refine Good.ret (v := .bool true) (by kernel_rfl) (fun w1 hw h => ⟨(), rfl, hw, fun _ _ _ => trivial⟩)
  have z2 := ne_f hc
  clear hc
  refine Good.run (by kernel_rfl) (stop := 1000) 1000 _ ?_
  refine Good.both ((e3 != 0)) (by kernel_rfl) (fun hc => ?_) (fun hc => ?_)
  ·
    refine Good.runC (by kernel_rfl) (stop := 1000) 6000 _ ?_
    refine Good.callv (fun w1 hw h => tex_m w1) (by kernel_rfl) (fun u => ?_)
    refine Good.run (by kernel_rfl) (stop := 1000) 1000 _ ?_
    refine Good.ret (v := .bool true) (by kernel_rfl) (fun w1 hw h => ⟨(), rfl, hw, fun _ _ _ => trivial⟩)
  have z3 := ne_f hc
  clear hc
  obtain ⟨oA, oB, oC, oAB, oABC⟩ := compE3.1 (he1.trans z1)
  obtain ⟨_, _, oBC⟩ := compE2.1 (he3.trans z3)
  have he4 : compE [compF [A, B], C] = 0 := by rw [compF2]; exact compE2.2 ⟨oAB, oC, oABC⟩
  have he5 : compE [A, compF [B, C]] = 0 := by rw [compF2]; exact compE2.2 ⟨oA, oBC, by rw [← comp_assoc]; exact oABC⟩
  have f4 : compF [compF [A, B], C] = compF [A, B, C] := by rw [compF2, compF2, compF3]
  have f5 : compF [A, compF [B, C]] = compF [A, B, C] := by rw [compF2, compF2, compF3, comp_assoc]
  refine Good.run (by kernel_rfl) (stop := 2) 1000 _ ?_
  refine Good.make (litS 58 2 #[(0, v2.val), (1, c.val)]) (litV 2) (litG 28 ([v2, c].flatMap TV.cl).toArray) (by kernel_rfl) (fun w1 hw h => make_lit (by kernel_rfl)) (fun g4 => ?_)
  refine Good.run (by kernel_rfl) (stop := 1000) 1000 _ ?_
  refine Good.callv (fun w1 hw h => compose_v (K := 20) (c := 2) he4 (row_two h.2 ((h.1.1.1.2.n z2).q.mono (by decide)) (hc.below hw)) (by decide) (by decide)) (by kernel_rfl) (fun v4 => ?_)
  refine Good.run (by kernel_rfl) (stop := 2) 1000 _ ?_
  refine Good.make (litS 58 2 #[(0, a.val), (1, v3.val)]) (litV 2) (litG 28 ([a, v3].flatMap TV.cl).toArray) (by kernel_rfl) (fun w1 hw h => make_lit (by kernel_rfl)) (fun g5 => ?_)
  refine Good.run (by kernel_rfl) (stop := 1000) 1000 _ ?_
  refine Good.callv (fun w1 hw h => compose_v (K := 20) (c := 2) he5 (row_two h.2 (ha.below hw) ((h.1.1.1.2.n z3).q.mono (by decide))) (by decide) (by decide)) (by kernel_rfl) (fun v5 => ?_)
  refine Good.run (by kernel_rfl) (stop := 1000) 1000 _ ?_
  refine Good.callv (fun w1 hw h => fields_e ((h.1.1.2.n rfl).cast f4) (h.1.1.1.1.1.1.1.1.2.n z1)) (by kernel_rfl) (fun u => ?_)
  refine Good.run (by kernel_rfl) (stop := 1000) 1000 _ ?_
  refine Good.callv (fun w1 hw h => fields_e ((h.1.2.n rfl).cast f5) (h.1.1.1.1.1.1.1.1.1.2.n z1)) (by kernel_rfl) (fun u => ?_)
  refine Good.run (by kernel_rfl) (stop := 1000) 1000 _ ?_
  refine Good.cond false (by kernel_rfl) ?_
  refine Good.run (by kernel_rfl) (stop := 1000) 1000 _ ?_
  refine Good.callv (fun w1 hw h => applyE_m (ha.below hw) (h1.below hw) (h2.below hw) (by decide)) (by kernel_rfl) (fun x1 => ?_)
  refine Good.run (by kernel_rfl) (stop := 1000) 1000 _ ?_
  refine Good.callv (fun w1 hw h => applyE_m (K := 102) ((hb.below hw).mono (by decide)) h.2.1.q h.2.2.q (by decide)) (by kernel_rfl) (fun x2 => ?_)
  refine Good.run (by kernel_rfl) (stop := 1000) 1000 _ ?_
  refine Good.callv (fun w1 hw h => applyE_m (K := 512) ((hc.below hw).mono (by decide)) h.2.1.q h.2.2.q (by decide)) (by kernel_rfl) (fun x3 => ?_)
  refine Good.run (by kernel_rfl) (stop := 1000) 1000 _ ?_
  refine Good.callv (fun w1 hw h => applyE_m (K := 20) ((h.1.1.1.1.1.1.1.1.1.1.1.1.1.2.n z1).q.mono (by decide)) (h1.below hw) (h2.below hw) (by decide)) (by kernel_rfl) (fun x4 => ?_)
  refine Good.run (by kernel_rfl) (stop := 1000) 1000 _ ?_
  have ea : (compF [A, B, C]).app p q = C.app (B.app (A.app p q).1 (A.app p q).2).1 (B.app (A.app p q).1 (A.app p q).2).2 := by rw [compF3, app_comp, app_comp]
  refine Good.callv (fun w1 hw h => rsame_nn (B := true) h.1.2.1 h.2.1 (by rw [ea]; simp)) (by kernel_rfl) (fun u => ?_)
  refine Good.run (by kernel_rfl) (stop := 1000) 1000 _ ?_
  refine Good.callv (fun w1 hw h => rsame_nn (B := true) h.1.1.2.2 h.1.2.2 (by rw [ea]; simp)) (by kernel_rfl) (fun u => ?_)
  refine Good.run (by kernel_rfl) (stop := 1000) 1000 _ ?_
  refine Good.callv (fun w1 hw h => detA_m (h.1.1.1.1.1.1.1.1.1.1.1.1.1.1.1.1.2.n z1).q (by decide)) (by kernel_rfl) (fun d1 => ?_)
  refine Good.run (by kernel_rfl) (stop := 1000) 1000 _ ?_
  refine Good.callv (fun w1 hw h => detA_m (ha.below hw) (by decide)) (by kernel_rfl) (fun d2 => ?_)
  refine Good.run (by kernel_rfl) (stop := 1000) 1000 _ ?_
  refine Good.callv (fun w1 hw h => detA_m (hb.below hw) (by decide)) (by kernel_rfl) (fun d3 => ?_)
  refine Good.run (by kernel_rfl) (stop := 1000) 1000 _ ?_
  refine Good.callv (fun w1 hw h => detA_m (hc.below hw) (by decide)) (by kernel_rfl) (fun d4 => ?_)
  refine Good.run (by kernel_rfl) (stop := 1000) 1000 _ ?_
  refine Good.callv (fun w1 hw h => rqmul_m h.1.2.q h.2.q (by decide)) (by kernel_rfl) (fun m => ?_)
  refine Good.run (by kernel_rfl) (stop := 1000) 1000 _ ?_
  refine Good.callv (fun w1 hw h => rqmul_m h.1.1.1.2.q h.2.q (by decide)) (by kernel_rfl) (fun n => ?_)
  refine Good.run (by kernel_rfl) (stop := 1000) 1000 _ ?_
  have ed : (compF [A, B, C]).det = A.det * (B.det * C.det) := by rw [compF3, det_comp, det_comp, Rat.mul_assoc]
  refine Good.callv (fun w1 hw h => rsame_nn (B := true) h.1.1.1.1.1.2 h.2 (by rw [ed]; simp)) (by kernel_rfl) (fun u => ?_)
  refine Good.run (by kernel_rfl) (stop := 1000) 1000 _ ?_
  refine Good.callv (fun w1 hw h => tex_m w1) (by kernel_rfl) (fun u => ?_)
  refine Good.run (by kernel_rfl) (stop := 1000) 1000 _ ?_
  refine Good.ret (v := .bool true) (by kernel_rfl) (fun w1 hw h => ⟨(), rfl, hw, fun _ _ _ => trivial⟩)
theorem tmod_bd {k : Int} {d : Int} (hd : 0 < d) : -d < k.tmod d ∧ k.tmod d < d := by
  have h1 := Int.tmod_lt_of_pos k hd
  have h2 := Int.tmod_lt_of_pos (-k) hd
  rw [Int.neg_tmod] at h2
  omega
def movT (A B : Int) : Aff := { affId with e := (A : Rat), f := (B : Rat) }
theorem mov_at {A B : Int} : atX (T.comp (movT A B)) X Y = atX T X Y + A ∧ atY (T.comp (movT A B)) X Y = atY T X Y + B := by
  have h := app_comp T (movT A B) (X : Rat) (Y : Rat)
  have e1 : ∀ x y : Rat, (movT A B).app x y = (x + A, y + B) := fun x y => by
    simp only [movT, affId, affI, Aff.app, q0, q1, Prod.mk.injEq]
    constructor <;> grind
  rw [e1] at h
  unfold atX atY
  rw [h]
  constructor
  · rw [← Rat.floor_add_intCast]; congr 1; grind
  · rw [← Rat.floor_add_intCast]; congr 1; grind
theorem at_ok (h : atE T X Y = 0) : atP T X Y = pt (atX T X Y) (atY T X Y) ∧ validP (atX T X Y) (atY T X Y) = true := by
  refine ⟨by unfold atP; rw [if_pos h], ?_⟩
  have hok : atOk T X Y = true := by
    unfold atE at h
    split at h
    · cases h
    · split at h
      · cases h
      · split at h
        · cases h
        · rename_i h3; simpa using h3
  unfold atOk at hok
  simp only [Bool.and_eq_true] at hok
  rw [toV_fit hok.1, toV_fit hok.2.1] at hok
  exact hok.2.2
set_option maxRecDepth 100000 in
set_option maxHeartbeats 4000000 in
theorem lawTranslate {A0 B0 : Int} (it : InT t w) : Calls Try.prog 6 #[t.val, pt X Y, pt A0 B0] w (CallPost w (fun _ : Unit => .bool true) fun _ _ => True) := by
  refine Good.enter Try.func6 rfl ?_
  refine Good.run (by kernel_rfl) (stop := 1000) 1000 _ ?_
  cases hT : smallT t
  ·
    refine Good.callv (fun w1 hw h => smallA_v hT) (by kernel_rfl) (fun u => ?_)
    refine Good.run (by kernel_rfl) (stop := 1000) 1000 _ ?_
    refine Good.runC (by kernel_rfl) (stop := 1000) 6000 _ ?_
    refine Good.callv (fun w1 hw h => tex_m w1) (by kernel_rfl) (fun u => ?_)
    refine Good.run (by kernel_rfl) (stop := 1000) 1000 _ ?_
    refine Good.ret (v := .bool true) (by kernel_rfl) (fun w1 hw h => ⟨(), rfl, hw, fun _ _ _ => trivial⟩)
  obtain ⟨T, ht⟩ := smallT_a hT it
  refine Good.callv (fun w1 hw h => smallA_v hT) (by kernel_rfl) (fun u => ?_)
  refine Good.run (by kernel_rfl) (stop := 1000) 1000 _ ?_
  have bA := tmod_bd (k := A0) (d := 100000) (by decide)
  have bB := tmod_bd (k := B0) (d := 100000) (by decide)
  refine Good.cond false (by kernel_rfl) ?_
  refine Good.run (by kernel_rfl) (stop := 1000) 1000 _ ?_
  refine Good.callv (fun w1 hw h => rqfromInt_m (A0.tmod 100000) w1 (by omega) (by omega)) (by kernel_rfl) (fun c => ?_)
  refine Good.run (by kernel_rfl) (stop := 1000) 1000 _ ?_
  refine Good.callv (fun w1 hw h => rqfromInt_m (B0.tmod 100000) w1 (by omega) (by omega)) (by kernel_rfl) (fun d => ?_)
  refine Good.run (by kernel_rfl) (stop := 1000) 1000 _ ?_
  refine Good.callv (fun w1 hw h => translate_m h.1.2.q h.2.q (by decide)) (by kernel_rfl) (fun m => ?_)
  refine Good.run (by kernel_rfl) (stop := 8) 1000 _ ?_
  obtain ⟨e1, he1⟩ : ∃ e, compE [T, movT (A0.tmod 100000) (B0.tmod 100000)] = e := ⟨_, rfl⟩
  refine Good.make (litS 58 2 #[(0, t.val), (1, m.val)]) (litV 2) (litG 28 ([t, m].flatMap TV.cl).toArray) (by kernel_rfl) (fun w1 hw h => make_lit (by kernel_rfl)) (fun g => ?_)
  refine Good.run (by kernel_rfl) (stop := 1000) 1000 _ ?_
  refine Good.callv (fun w1 hw h => compose_v (K := 20) (c := 2) (Ts := [T, movT (A0.tmod 100000) (B0.tmod 100000)]) he1 (row_two h.2 (ht.below hw) (h.1.2.q.mono (by decide))) (by decide) (by decide)) (by kernel_rfl) (fun v => ?_)
  refine Good.run (by kernel_rfl) (stop := 1000) 1000 _ ?_
  obtain ⟨P, Q, hP⟩ := atP_ex T X Y
  obtain ⟨e2, he2⟩ : ∃ e, atE T X Y = e := ⟨_, rfl⟩
  refine Good.callv (fun w1 hw h => apply_v hP he2 (ht.below hw) (by decide)) (by kernel_rfl) (fun u => ?_)
  refine Good.run (by kernel_rfl) (stop := 1000) 1000 _ ?_
  by_cases z1 : e1 = 0
  case neg =>
    have hv0 : ∀ u, OutA v e1 (compF [T, movT (A0.tmod 100000) (B0.tmod 100000)]) 8 u → v = TV0 := fun u h => h.z z1
    obtain ⟨P2, Q2, hP2⟩ := atP_ex (affI 0 0 0 0) X Y
    obtain ⟨e3, he3⟩ : ∃ e, atE (affI 0 0 0 0) X Y = e := ⟨_, rfl⟩
    have ap : ∀ u : World, v = TV0 → Calls Try.prog 13 #[v.val, pt X Y] u (CallPost u (fun _ : Unit => .tuple #[pt P2 Q2, .int .i64 e3]) fun _ _ => True) := fun u e => by
      subst e
      exact apply_v (t := TV0) (K := 8) hP2 he3 ⟨isq0, isq0, isq0, isq0, isq0, isq0⟩ (by decide)
    refine Good.callv (fun w1 hw h => ap w1 (hv0 _ h.1.2)) (by kernel_rfl) (fun u => ?_)
    refine Good.run (by kernel_rfl) (stop := 2) 1000 _ ?_
    refine Good.slot 50 (.bool (e1 != 0)) (.bool true) (by kernel_rfl) (by simp [z1]) ?_
    refine Good.runC (by kernel_rfl) (stop := 1000) 6000 _ ?_
    refine Good.callv (fun w1 hw h => tex_m w1) (by kernel_rfl) (fun u => ?_)
    refine Good.run (by kernel_rfl) (stop := 1000) 1000 _ ?_
    refine Good.ret (v := .bool true) (by kernel_rfl) (fun w1 hw h => ⟨(), rfl, hw, fun _ _ _ => trivial⟩)
  subst z1
  have hU : compF [T, movT (A0.tmod 100000) (B0.tmod 100000)] = T.comp (movT (A0.tmod 100000) (B0.tmod 100000)) := compF2
  obtain ⟨P3, Q3, hP3⟩ := atP_ex (T.comp (movT (A0.tmod 100000) (B0.tmod 100000))) X Y
  obtain ⟨e3, he3⟩ : ∃ e, atE (T.comp (movT (A0.tmod 100000) (B0.tmod 100000))) X Y = e := ⟨_, rfl⟩
  refine Good.callv (fun w1 hw h => apply_v hP3 he3 ((h.1.2.n rfl).cast hU).q (by decide)) (by kernel_rfl) (fun u => ?_)
  refine Good.run (by kernel_rfl) (stop := 2) 1000 _ ?_
  refine Good.run (by kernel_rfl) (stop := 6) 1000 _ ?_
  refine Good.fork 54 ((e2 != 0)) (by kernel_rfl) (fun hc => ?_) (fun hc => ?_)
  ·
    refine Good.runC (by kernel_rfl) (stop := 1000) 6000 _ ?_
    refine Good.callv (fun w1 hw h => tex_m w1) (by kernel_rfl) (fun u => ?_)
    refine Good.run (by kernel_rfl) (stop := 1000) 1000 _ ?_
    refine Good.ret (v := .bool true) (by kernel_rfl) (fun w1 hw h => ⟨(), rfl, hw, fun _ _ _ => trivial⟩)
  have z2 := ne_f hc
  clear hc
  refine Good.run (by kernel_rfl) (stop := 1000) 1000 _ ?_
  refine Good.both ((e3 != 0)) (by kernel_rfl) (fun hc => ?_) (fun hc => ?_)
  ·
    refine Good.runC (by kernel_rfl) (stop := 1000) 6000 _ ?_
    refine Good.callv (fun w1 hw h => tex_m w1) (by kernel_rfl) (fun u => ?_)
    refine Good.run (by kernel_rfl) (stop := 1000) 1000 _ ?_
    refine Good.ret (v := .bool true) (by kernel_rfl) (fun w1 hw h => ⟨(), rfl, hw, fun _ _ _ => trivial⟩)
  have z3 := ne_f hc
  obtain ⟨k1, v1⟩ := at_ok (he2.trans z2)
  obtain ⟨k2, v2⟩ := at_ok (he3.trans z3)
  rw [hP] at k1
  rw [hP3] at k2
  obtain ⟨m1, m2⟩ := mov_at (T := T) (X := X) (Y := Y) (A := A0.tmod 100000) (B := B0.tmod 100000)
  have b1 := tri_bd v1
  have hinj : ∀ {a b c d : Int}, pt a b = pt c d → a = c ∧ b = d := fun h => by simpa [pt] using h
  have i1 := hinj k1
  have i2 := hinj k2
  have hx : P3 = IntKind.i64.wrap (P + A0.tmod 100000) := by rw [IntWalk.i64_in _ (by omega), i2.1, m1, i1.1]
  have hy : Q3 = IntKind.i64.wrap (Q + B0.tmod 100000) := by rw [IntWalk.i64_in _ (by omega), i2.2, m2, i1.2]
  refine Good.run (by kernel_rfl) (stop := 12) 1000 _ ?_
  refine Good.ask (eqP 30 (.tmp 60) (.tmp 71) (pt P3 Q3) (pt (IntKind.i64.wrap (P + A0.tmod 100000)) (IntKind.i64.wrap (Q + B0.tmod 100000)))) (.bool true) (by kernel_rfl) (fun w1 hw h => by rw [run_eqP, ← hx, ← hy]; simp) ?_
  refine Good.run (by kernel_rfl) (stop := 1000) 1000 _ ?_
  refine Good.callv (fun w1 hw h => tex_m w1) (by kernel_rfl) (fun u => ?_)
  refine Good.run (by kernel_rfl) (stop := 1000) 1000 _ ?_
  refine Good.ret (v := .bool true) (by kernel_rfl) (fun w1 hw h => ⟨(), rfl, hw, fun _ _ _ => trivial⟩)
end

theorem qm1 : ((-1 : Int) : Rat) = -1 := rfl
theorem comp_inv {T : Aff} (h : T.det ≠ 0) : T.comp T.inv = affId := by
  have hi := Rat.mul_inv_cancel _ h
  unfold Aff.inv
  simp only [Rat.div_def]
  generalize T.det⁻¹ = i at hi ⊢
  unfold Aff.det at hi
  refine aff_ext ?_ ?_ ?_ ?_ ?_ ?_ <;> simp only [Aff.comp, Aff.app, affId, affI, q0, q1] <;> grind
theorem inv_comp {T : Aff} (h : T.det ≠ 0) : T.inv.comp T = affId := by
  have hi := Rat.mul_inv_cancel _ h
  unfold Aff.inv
  simp only [Rat.div_def]
  generalize T.det⁻¹ = i at hi ⊢
  unfold Aff.det at hi
  refine aff_ext ?_ ?_ ?_ ?_ ?_ ?_ <;> simp only [Aff.comp, Aff.app, affId, affI, q0, q1] <;> grind
theorem parts_comp {T : Aff} (h : T.det ≠ 0) : compF (partsA T) = T := by
  unfold partsA
  split
  · rename_i h0
    have hc : T.c ≠ 0 := fun e => h (by unfold Aff.det; rw [h0, e]; grind)
    have hi := Rat.mul_inv_cancel _ hc
    simp only [Rat.div_def]
    generalize T.c⁻¹ = i at hi ⊢
    refine aff_ext ?_ ?_ ?_ ?_ ?_ ?_ <;> simp only [compF, List.foldl_cons, List.foldl_nil, Aff.comp, Aff.app, affId, affI, q0, q1, qtA, if_true, qm1] <;> grind
  · rename_i h0
    have hi := Rat.mul_inv_cancel _ h0
    simp only [Rat.div_def, Aff.det]
    generalize T.a⁻¹ = i at hi ⊢
    refine aff_ext ?_ ?_ ?_ ?_ ?_ ?_ <;> simp only [compF, List.foldl_cons, List.foldl_nil, Aff.comp, Aff.app, affId, affI, q0, q1] <;> grind

/-- Of at most k bits. -/
def Bk (k : Nat) (x : Int) : Prop := x.natAbs ≤ 2 ^ k
theorem Bk.mul {k l : Nat} {x y : Int} (h1 : Bk k x) (h2 : Bk l y) : Bk (k + l) (x * y) := by
  unfold Bk at *
  rw [Int.natAbs_mul, Nat.pow_add]
  exact Nat.mul_le_mul h1 h2
theorem Bk.add {k : Nat} {x y : Int} (h1 : Bk k x) (h2 : Bk k y) : Bk (k + 1) (x + y) := by
  unfold Bk at *
  have := Int.natAbs_add_le x y
  rw [Nat.pow_succ]
  omega
theorem Bk.neg {k : Nat} {x : Int} (h1 : Bk k x) : Bk k (-x) := by unfold Bk at *; rwa [Int.natAbs_neg]
theorem Bk.mono {k l : Nat} {x : Int} (h : Bk k x) (hk : k ≤ l) : Bk l x := Nat.le_trans h (Nat.pow_le_pow_right (by decide) hk)
/-- A fraction over D with a numerator of at most k bits. -/
def Fq (D : Int) (k : Nat) (q : Rat) : Prop := ∃ n : Int, Bk k n ∧ q = (n : Rat) * (D : Rat)⁻¹
theorem Fq.of {D n : Int} {k : Nat} (h : Bk k n) : Fq D k ((n : Rat) / (D : Rat)) := ⟨n, h, Rat.div_def _ _⟩
theorem Fq.mul {D u : Int} {k l : Nat} {q : Rat} (h : Fq D k q) (hu : Bk l u) : Fq D (l + k) ((u : Rat) * q) := by
  obtain ⟨n, hn, rfl⟩ := h
  exact ⟨u * n, hu.mul hn, by rw [Rat.intCast_mul, Rat.mul_assoc]⟩
theorem Fq.mul' {D u : Int} {k l : Nat} {q : Rat} (h : Fq D k q) (hu : Bk l u) : Fq D (l + k) (q * (u : Rat)) := by rw [Rat.mul_comm]; exact h.mul hu
theorem Fq.add {D : Int} {k : Nat} {p q : Rat} (h1 : Fq D k p) (h2 : Fq D k q) : Fq D (k + 1) (p + q) := by
  obtain ⟨n, hn, rfl⟩ := h1
  obtain ⟨m, hm, rfl⟩ := h2
  exact ⟨n + m, hn.add hm, by rw [Rat.intCast_add, Rat.add_mul]⟩
theorem Fq.neg {D : Int} {k : Nat} {p : Rat} (h1 : Fq D k p) : Fq D k (-p) := by
  obtain ⟨n, hn, rfl⟩ := h1
  exact ⟨-n, hn.neg, by rw [Rat.intCast_neg, Rat.neg_mul]⟩
theorem Fq.mono {D : Int} {k l : Nat} {p : Rat} (h1 : Fq D k p) (hk : k ≤ l) : Fq D l p := by
  obtain ⟨n, hn, rfl⟩ := h1
  exact ⟨n, hn.mono hk, rfl⟩
theorem Fq.int {D m : Int} {k d : Nat} (h0 : D ≠ 0) (hm : Bk k m) (hD : Bk d D) : Fq D (k + d) (m : Rat) := by
  refine ⟨m * D, hm.mul hD, ?_⟩
  have h : (D : Rat) ≠ 0 := by exact_mod_cast h0
  rw [Rat.intCast_mul, Rat.mul_assoc, Rat.mul_inv_cancel _ h, Rat.mul_one]

theorem bits_256 {D : Int} {k : Nat} {q : Rat} (h : Fq D k q) (hk : k ≤ 255) (h0 : D ≠ 0) (hD : Bk 255 D) : bitsQ q ≤ 256 := by
  obtain ⟨n, hn, rfl⟩ := h
  have hlt : ∀ {x : Int}, Bk 255 x → x.natAbs < pw 8 := fun hx => by
    unfold Bk at hx
    rw [pw_two]
    exact Nat.lt_of_le_of_lt hx (Nat.pow_lt_pow_right (by decide) (by decide))
  have hb := divInt_bd (hlt (hn.mono hk)) (hlt hD) h0
  have e : (n : Rat) * (D : Rat)⁻¹ = Rat.divInt n D := by rw [Rat.divInt_eq_div, Rat.div_def]
  rw [e]
  unfold bitsQ
  rw [pw_two] at hb
  have h1 := bitsN_lt (k := 256) (v := (Rat.divInt n D).num.natAbs) hb.1
  have h2 := bitsN_lt (k := 256) (v := (Rat.divInt n D).den) (by simpa using hb.2)
  omega
structure FqA (D : Int) (k : Nat) (T : Aff) : Prop where
  a : Fq D k T.a
  b : Fq D k T.b
  c : Fq D k T.c
  d : Fq D k T.d
  e : Fq D k T.e
  f : Fq D k T.f
theorem FqA.ok {D : Int} {k : Nat} {T : Aff} (h : FqA D k T) (hk : k ≤ 255) (h0 : D ≠ 0) (hD : Bk 255 D) : T.ok = true := by
  have ha := bits_256 h.a hk h0 hD
  have hb := bits_256 h.b hk h0 hD
  have hc := bits_256 h.c hk h0 hD
  have hd := bits_256 h.d hk h0 hD
  have he := bits_256 h.e hk h0 hD
  have hf := bits_256 h.f hk h0 hD
  unfold Aff.ok bitsA
  simp only [List.all_cons, List.all_nil, Bool.and_true, Bool.and_eq_true, decide_eq_true_eq]
  exact ⟨ha, hb, hc, hd, he, hf⟩
def detI (p : Tri) : Int := (p.x1 - p.x0) * (p.y2 - p.y0) - (p.y1 - p.y0) * (p.x2 - p.x0)
theorem det_frame (p : Tri) : (frameT p).det = (detI p : Rat) := by
  show ((p.x1 - p.x0 : Int) : Rat) * ((p.y2 - p.y0 : Int) : Rat) - ((p.y1 - p.y0 : Int) : Rat) * ((p.x2 - p.x0 : Int) : Rat) = _
  rw [← Rat.intCast_mul, ← Rat.intCast_mul, ← Rat.intCast_sub]
  rfl
theorem bk22 {x : Int} (h : -2097152 ≤ x ∧ x ≤ 2097152) : Bk 22 x := by unfold Bk; omega
structure BdT (p : Tri) : Prop where
  a : Bk 22 (p.x1 - p.x0)
  b : Bk 22 (p.y1 - p.y0)
  c : Bk 22 (p.x2 - p.x0)
  d : Bk 22 (p.y2 - p.y0)
  e : Bk 22 p.x0
  f : Bk 22 p.y0
theorem bdT {p : Tri} (h : p.ok = true) : BdT p := by
  have hb := Tri.bd h
  exact ⟨bk22 (by omega), bk22 (by omega), bk22 (by omega), bk22 (by omega), bk22 (by omega), bk22 (by omega)⟩
theorem bkD {p : Tri} (h : p.ok = true) : Bk 46 (detI p) := by
  have b := bdT h
  unfold detI
  rw [Int.sub_eq_add_neg]
  exact ((b.a.mul b.d).add (b.b.mul b.c).neg).mono (by decide)
theorem inv_fr {p : Tri} (h : p.ok = true) : FqA (detI p) 48 (frameT p).inv := by
  have b := bdT h
  have ha : Fq (detI p) 22 ((frameT p).d / (frameT p).det) := by rw [det_frame]; exact Fq.of b.d
  have hd : Fq (detI p) 22 ((frameT p).a / (frameT p).det) := by rw [det_frame]; exact Fq.of b.a
  have hb : Fq (detI p) 22 (-(frameT p).b / (frameT p).det) := by
    rw [det_frame]
    have := Fq.of (D := detI p) b.b.neg
    rwa [Rat.intCast_neg] at this
  have hc : Fq (detI p) 22 (-(frameT p).c / (frameT p).det) := by
    rw [det_frame]
    have := Fq.of (D := detI p) b.c.neg
    rwa [Rat.intCast_neg] at this
  refine ⟨ha.mono (by decide), hb.mono (by decide), hc.mono (by decide), hd.mono (by decide), ?_, ?_⟩
  · have : Fq (detI p) 45 ((frameT p).d / (frameT p).det * (frameT p).e + -(frameT p).c / (frameT p).det * (frameT p).f) := ((ha.mul' b.e).add (hc.mul' b.f))
    have h2 := this.neg.mono (show 45 ≤ 48 by decide)
    show Fq (detI p) 48 (-((frameT p).d / (frameT p).det * (frameT p).e + -(frameT p).c / (frameT p).det * (frameT p).f + ((0 : Int) : Rat)))
    rwa [q0, Rat.add_zero]
  · have : Fq (detI p) 45 (-(frameT p).b / (frameT p).det * (frameT p).e + (frameT p).a / (frameT p).det * (frameT p).f) := ((hb.mul' b.e).add (hd.mul' b.f))
    have h2 := this.neg.mono (show 45 ≤ 48 by decide)
    show Fq (detI p) 48 (-(-(frameT p).b / (frameT p).det * (frameT p).e + (frameT p).a / (frameT p).det * (frameT p).f + ((0 : Int) : Rat)))
    rwa [q0, Rat.add_zero]
theorem comp_fr {p q : Tri} (h : p.ok = true) (hq : q.ok = true) (h0 : detI p ≠ 0) : FqA (detI p) 80 ((frameT p).inv.comp (frameT q)) := by
  have i := inv_fr h
  have b := bdT hq
  have hD := bkD h
  refine ⟨((i.a.mul b.a).add (i.b.mul b.c)).mono (by decide), ((i.a.mul b.b).add (i.b.mul b.d)).mono (by decide), ((i.c.mul b.a).add (i.d.mul b.c)).mono (by decide), ((i.c.mul b.b).add (i.d.mul b.d)).mono (by decide), ?_, ?_⟩
  · exact (((i.e.mul b.a).add (i.f.mul b.c)).add ((Fq.int h0 b.e hD).mono (show 22 + 46 ≤ 71 by decide))).mono (by decide)
  · exact (((i.e.mul b.b).add (i.f.mul b.d)).add ((Fq.int h0 b.f hD).mono (show 22 + 46 ≤ 71 by decide))).mono (by decide)
theorem frame_fr {p : Tri} (h : p.ok = true) : FqA 1 23 (frameT p) := by
  have b := bdT h
  have h1 : Bk 1 1 := by unfold Bk; decide
  exact ⟨Fq.int (by decide) b.a h1, Fq.int (by decide) b.b h1, Fq.int (by decide) b.c h1, Fq.int (by decide) b.d h1, Fq.int (by decide) b.e h1, Fq.int (by decide) b.f h1⟩
theorem frame_ok {p : Tri} (h : p.ok = true) : (frameT p).ok = true := (frame_fr h).ok (by decide) (by decide) (by unfold Bk; decide)
theorem inv_ok {p : Tri} (h : p.ok = true) (h0 : detI p ≠ 0) : (frameT p).inv.ok = true := (inv_fr h).ok (by decide) h0 ((bkD h).mono (by decide))
theorem comp_ok {p q : Tri} (h : p.ok = true) (hq : q.ok = true) (h0 : detI p ≠ 0) : ((frameT p).inv.comp (frameT q)).ok = true := (comp_fr h hq h0).ok (by decide) h0 ((bkD h).mono (by decide))
/-- The error of a transform between triangles, as the chapter says it. -/
theorem triE_eq (a b : Tri) : triE a b = if (a.ok && b.ok) = false then 6 else if detI a = 0 then 9 else 0 := by
  unfold triE
  by_cases h : (a.ok && b.ok) = false
  · rw [if_pos h, if_pos h]
  · rw [if_neg h, if_neg h]
    simp only [Bool.and_eq_false_iff, not_or, Bool.not_eq_false] at h
    have hdet : ((frameT a).det = 0) ↔ detI a = 0 := by rw [det_frame]; exact_mod_cast Iff.rfl
    by_cases h0 : detI a = 0
    · rw [if_pos h0]
      have : invE (frameT a) = 9 := by unfold invE; rw [if_neg (by rw [frame_ok h.1]; simp), if_pos (hdet.2 h0)]
      rw [this]; rfl
    · rw [if_neg h0]
      have : invE (frameT a) = 0 := by unfold invE; rw [if_neg (by rw [frame_ok h.1]; simp), if_neg (fun e => h0 (hdet.1 e)), if_neg (by rw [inv_ok h.1 h0]; simp)]
      rw [if_neg (by simp [this])]
      exact compE2.2 ⟨inv_ok h.1 h0, frame_ok h.2, comp_ok h.1 h.2 h0⟩
theorem triE_zero {a b : Tri} (h : triE a b = 0) : a.ok = true ∧ b.ok = true ∧ detI a ≠ 0 := by
  rw [triE_eq] at h
  split at h
  · cases h
  · rename_i h1
    split at h
    · cases h
    · rename_i h2
      simp only [Bool.and_eq_false_iff, not_or, Bool.not_eq_false] at h1
      exact ⟨h1.1, h1.2, h2⟩
theorem triE_of {a b : Tri} (ha : a.ok = true) (hb : b.ok = true) (h0 : detI a ≠ 0) : triE a b = 0 := by
  rw [triE_eq, if_neg (by rw [ha, hb]; simp), if_neg h0]
theorem triF_eq (a b : Tri) : triF a b = (frameT a).inv.comp (frameT b) := compF2
theorem tri_comp {a b c : Tri} (h1 : triE a b = 0) (h2 : triE b c = 0) : triE a c = 0 ∧ compE [triF a b, triF b c] = 0 ∧ compF [triF a b, triF b c] = triF a c := by
  obtain ⟨ha, hb, d1⟩ := triE_zero h1
  obtain ⟨_, hc, d2⟩ := triE_zero h2
  have hd : (frameT b).det ≠ 0 := by rw [det_frame]; exact_mod_cast d2
  have e : (triF a b).comp (triF b c) = triF a c := by
    rw [triF_eq, triF_eq, triF_eq, comp_assoc, ← comp_assoc (frameT b), comp_inv hd, id_comp]
  refine ⟨triE_of ha hc d1, compE2.2 ⟨?_, ?_, ?_⟩, by rw [compF2, e]⟩
  · rw [triF_eq]; exact comp_ok ha hb d1
  · rw [triF_eq]; exact comp_ok hb hc d2
  · rw [e, triF_eq]; exact comp_ok ha hc d1
section
variable {w : World} {t u : TV} {T U : Aff} {K K1 K2 : Nat} {r s : RV} {p q : Rat} {X Y : Int} {a b c : Tri}
theorem fromTri_v {e : Int} (he : triE a b = e) : Calls Try.prog 31 #[a.val, b.val] w (CallPost w (fun r : TV => .tuple #[r.val, .int .i64 e]) fun r u => OutA r e (triF a b) 8 u) := by subst he; exact fromTri_m
set_option maxRecDepth 100000 in
set_option maxHeartbeats 4000000 in
theorem lawTriCompose : Calls Try.prog 7 #[a.val, b.val, c.val] w (CallPost w (fun _ : Unit => .bool true) fun _ _ => True) := by
  obtain ⟨e1, he1⟩ : ∃ e, triE a b = e := ⟨_, rfl⟩
  obtain ⟨e2, he2⟩ : ∃ e, triE b c = e := ⟨_, rfl⟩
  obtain ⟨e3, he3⟩ : ∃ e, triE a c = e := ⟨_, rfl⟩
  refine Good.enter Try.func7 rfl ?_
  refine Good.run (by kernel_rfl) (stop := 1000) 1000 _ ?_
  refine Good.callv (fun w1 hw h => fromTri_v he1) (by kernel_rfl) (fun v1 => ?_)
  refine Good.run (by kernel_rfl) (stop := 1000) 1000 _ ?_
  refine Good.callv (fun w1 hw h => fromTri_v he2) (by kernel_rfl) (fun v2 => ?_)
  refine Good.run (by kernel_rfl) (stop := 1000) 1000 _ ?_
  refine Good.callv (fun w1 hw h => fromTri_v he3) (by kernel_rfl) (fun v3 => ?_)
  refine Good.run (by kernel_rfl) (stop := 2) 1000 _ ?_
  refine Good.fork 34 ((e1 != 0)) (by kernel_rfl) (fun hc => ?_) (fun hc => ?_)
  ·
    refine Good.runC (by kernel_rfl) (stop := 1000) 6000 _ ?_
    refine Good.callv (fun w1 hw h => tex_m w1) (by kernel_rfl) (fun u => ?_)
    refine Good.run (by kernel_rfl) (stop := 1000) 1000 _ ?_
    refine Good.ret (v := .bool true) (by kernel_rfl) (fun w1 hw h => ⟨(), rfl, hw, fun _ _ _ => trivial⟩)
  have z1 := ne_f hc
  clear hc
  refine Good.run (by kernel_rfl) (stop := 1000) 1000 _ ?_
  refine Good.both ((e2 != 0)) (by kernel_rfl) (fun hc => ?_) (fun hc => ?_)
  ·
    refine Good.runC (by kernel_rfl) (stop := 1000) 6000 _ ?_
    refine Good.callv (fun w1 hw h => tex_m w1) (by kernel_rfl) (fun u => ?_)
    refine Good.run (by kernel_rfl) (stop := 1000) 1000 _ ?_
    refine Good.ret (v := .bool true) (by kernel_rfl) (fun w1 hw h => ⟨(), rfl, hw, fun _ _ _ => trivial⟩)
  have z2 := ne_f hc
  clear hc
  obtain ⟨k1, k2, k3⟩ := tri_comp (he1.trans z1) (he2.trans z2)
  have z3 := he3.symm.trans k1
  refine Good.run (by kernel_rfl) (stop := 2) 1000 _ ?_
  refine Good.make (litS 58 2 #[(0, v1.val), (1, v2.val)]) (litV 2) (litG 28 ([v1, v2].flatMap TV.cl).toArray) (by kernel_rfl) (fun w1 hw h => make_lit (by kernel_rfl)) (fun g => ?_)
  refine Good.run (by kernel_rfl) (stop := 1000) 1000 _ ?_
  refine Good.callv (fun w1 hw h => compose_v (c := 2) k2 (row_two h.2 (h.1.1.1.2.n z1).q (h.1.1.2.n z2).q) (by decide) (by decide)) (by kernel_rfl) (fun v => ?_)
  refine Good.run (by kernel_rfl) (stop := 2) 1000 _ ?_
  refine Good.slot 48 (.bool (e3 == 0)) (.bool true) (by kernel_rfl) (by simp [z3]) ?_
  refine Good.run (by kernel_rfl) (stop := 1000) 1000 _ ?_
  refine Good.callv (fun w1 hw h => fields_e ((h.2.n rfl).cast k3) (h.1.1.2.n z3)) (by kernel_rfl) (fun u => ?_)
  refine Good.run (by kernel_rfl) (stop := 1000) 1000 _ ?_
  refine Good.callv (fun w1 hw h => tex_m w1) (by kernel_rfl) (fun u => ?_)
  refine Good.run (by kernel_rfl) (stop := 1000) 1000 _ ?_
  refine Good.ret (v := .bool true) (by kernel_rfl) (fun w1 hw h => ⟨(), rfl, hw, fun _ _ _ => trivial⟩)
theorem decompose_z (hE : decE T = 0) (ht : IsA t T K w) (hK : 2 ≤ K ∧ K ≤ 10000) : Calls Try.prog 32 #[t.val] w (CallPost w (fun q : Nat × (TV × TV × TV × TV × TV) => .tuple #[litV 5 q.1, .int .i64 0]) fun q u => FiveN q (partsA T) (8 * K + 2) u) := by
  refine (decompose_m ht hK).mono fun e w' h => ?_
  obtain ⟨q, h1, h2, h3⟩ := h
  exact ⟨q, by rw [h1]; unfold decV; rw [hE]; rfl, h2, fun w'' k1 k2 => h3 w'' k1 k2 hE⟩
theorem decompose_e (hE : decE T ≠ 0) (ht : IsA t T K w) (hK : 2 ≤ K ∧ K ≤ 10000) : Calls Try.prog 32 #[t.val] w (CallPost w (fun _ : Unit => .tuple #[.slice none 0 0, .int .i64 (decE T)]) fun _ _ => True) := by
  refine (decompose_m ht hK).mono fun e w' h => ?_
  obtain ⟨q, h1, h2, h3⟩ := h
  exact ⟨(), by rw [h1]; show Ending.returned (Value.tuple #[decV T q.1, .int .i64 (decE T)]) = _; unfold decV; rw [if_neg hE], h2, fun w'' k1 k2 => trivial⟩
theorem FiveN.row {q : Nat × (TV × TV × TV × TV × TV)} (h : FiveN q (partsA T) K w) : RowT w (some ⟨q.1, 0, none⟩) 5 [q.2.1, q.2.2.1, q.2.2.2.1, q.2.2.2.2.1, q.2.2.2.2.2] (partsA T) K := by
  obtain ⟨T0, hT0, n0⟩ := h.n0
  obtain ⟨T1, hT1, n1⟩ := h.n1
  obtain ⟨T2, hT2, n2⟩ := h.n2
  obtain ⟨T3, hT3, n3⟩ := h.n3
  obtain ⟨T4, hT4, n4⟩ := h.n4
  have hl := partsA_len (T := T)
  have e : partsA T = [T0, T1, T2, T3, T4] := by
    match hm : partsA T, hl with
    | [a, b, c, d, e], _ =>
      rw [hm] at hT0 hT1 hT2 hT3 hT4
      simp only [List.getElem?_cons_zero, List.getElem?_cons_succ, Option.some.injEq] at hT0 hT1 hT2 hT3 hT4
      rw [hT0, hT1, hT2, hT3, hT4]
  rw [e]
  exact rowT_box h.box rfl rfl (five_q n0.q n1.q n2.q n3.q n4.q)
theorem decE_det (h : decE T = 0) : T.det ≠ 0 := by
  unfold decE at h
  split at h
  · cases h
  · split at h
    · cases h
    · rename_i h2; exact h2
set_option maxRecDepth 100000 in
set_option maxHeartbeats 4000000 in
theorem lawRecompose (it : InT t w) : Calls Try.prog 8 #[t.val] w (CallPost w (fun _ : Unit => .bool true) fun _ _ => True) := by
  refine Good.enter Try.func8 rfl ?_
  refine Good.run (by kernel_rfl) (stop := 1000) 1000 _ ?_
  cases hT : smallT t
  ·
    refine Good.callv (fun w1 hw h => smallA_v hT) (by kernel_rfl) (fun u => ?_)
    refine Good.run (by kernel_rfl) (stop := 1000) 1000 _ ?_
    refine Good.runC (by kernel_rfl) (stop := 1000) 6000 _ ?_
    refine Good.callv (fun w1 hw h => tex_m w1) (by kernel_rfl) (fun u => ?_)
    refine Good.run (by kernel_rfl) (stop := 1000) 1000 _ ?_
    refine Good.ret (v := .bool true) (by kernel_rfl) (fun w1 hw h => ⟨(), rfl, hw, fun _ _ _ => trivial⟩)
  obtain ⟨T, ht⟩ := smallT_a hT it
  refine Good.callv (fun w1 hw h => smallA_v hT) (by kernel_rfl) (fun u => ?_)
  refine Good.run (by kernel_rfl) (stop := 1000) 1000 _ ?_
  refine Good.cond false (by kernel_rfl) ?_
  refine Good.run (by kernel_rfl) (stop := 1000) 1000 _ ?_
  by_cases hE : decE T = 0
  case neg =>
    refine Good.callv (fun w1 hw h => decompose_e hE (ht.below hw) (by decide)) (by kernel_rfl) (fun l => ?_)
    refine Good.run (by kernel_rfl) (stop := 1000) 1000 _ ?_
    refine Good.condr (decE T != 0) true (by kernel_rfl) (by simpa using hE) ?_
    refine Good.run (by kernel_rfl) (stop := 1000) 1000 _ ?_
    refine Good.callv (fun w1 hw h => tex_m w1) (by kernel_rfl) (fun u => ?_)
    refine Good.run (by kernel_rfl) (stop := 1000) 1000 _ ?_
    refine Good.ret (v := .bool true) (by kernel_rfl) (fun w1 hw h => ⟨(), rfl, hw, fun _ _ _ => trivial⟩)
  refine Good.callv (fun w1 hw h => decompose_z hE (ht.below hw) (by decide)) (by kernel_rfl) (fun l => ?_)
  refine Good.run (by kernel_rfl) (stop := 1000) 1000 _ ?_
  refine Good.cond false (by kernel_rfl) ?_
  refine Good.run (by kernel_rfl) (stop := 1000) 1000 _ ?_
  rcases compE_or (partsA T) with hc | hc
  ·
    refine Good.callv (fun w1 hw h => compose_v (c := 5) hc h.2.row (by decide) (by decide)) (by kernel_rfl) (fun v => ?_)
    refine Good.run (by kernel_rfl) (stop := 1000) 1000 _ ?_
    refine Good.callv (fun w1 hw h => normA_m (ht.below hw) (by decide)) (by kernel_rfl) (fun m => ?_)
    refine Good.run (by kernel_rfl) (stop := 1000) 1000 _ ?_
    refine Good.callv (fun w1 hw h => fields_e ((h.1.2.n rfl).cast (parts_comp (decE_det hE))) h.2) (by kernel_rfl) (fun u => ?_)
    refine Good.run (by kernel_rfl) (stop := 1000) 1000 _ ?_
    refine Good.callv (fun w1 hw h => tex_m w1) (by kernel_rfl) (fun u => ?_)
    refine Good.run (by kernel_rfl) (stop := 1000) 1000 _ ?_
    refine Good.ret (v := .bool true) (by kernel_rfl) (fun w1 hw h => ⟨(), rfl, hw, fun _ _ _ => trivial⟩)
  ·
    refine Good.callv (fun w1 hw h => compose_v (c := 5) hc h.2.row (by decide) (by decide)) (by kernel_rfl) (fun v => ?_)
    refine Good.run (by kernel_rfl) (stop := 1000) 1000 _ ?_
    refine Good.callv (fun w1 hw h => tex_m w1) (by kernel_rfl) (fun u => ?_)
    refine Good.run (by kernel_rfl) (stop := 1000) 1000 _ ?_
    refine Good.ret (v := .bool true) (by kernel_rfl) (fun w1 hw h => ⟨(), rfl, hw, fun _ _ _ => trivial⟩)
end

section
variable {w : World} {x0 x1 x2 : List Value}
abbrev Done (w : World) (e : Ending) (w' : World) : Prop := e = .returned (.bool true) ∧ Below w.heap.size w w'
def shSpot : Sh := .cons 4 shRat (.cons 4 shRat (.cons 2 shPt .nil))
def shTri : Sh := .cons 2 shPt (.cons 2 shPt (.cons 2 shPt .nil))
theorem rd_tri {cs : List Value} (h : Rd w shTri cs) : ∃ p : Tri, cs.toArray = #[.int .i64 p.x0, .int .i64 p.y0, .int .i64 p.x1, .int .i64 p.y1, .int .i64 p.x2, .int .i64 p.y2] := by
  obtain ⟨_, _, rfl, _, h1, h⟩ := rd_cons h
  obtain ⟨_, _, rfl, _, h2, h⟩ := rd_cons h
  obtain ⟨_, _, rfl, _, h3, h⟩ := rd_cons h
  obtain rfl := h
  obtain ⟨a, b, rfl, _⟩ := rd_pt h1
  obtain ⟨c, d, rfl, _⟩ := rd_pt h2
  obtain ⟨e, f, rfl, _⟩ := rd_pt h3
  exact ⟨⟨a, b, c, d, e, f⟩, rfl⟩
theorem rd_spot {cs : List Value} (h : Rd w shSpot cs) : ∃ (r s : RV) (X Y : Int), cs = r.cl ++ (s.cl ++ [Value.int .i64 X, Value.int .i64 Y]) ∧ InR r w ∧ InR s w := by
  obtain ⟨_, _, rfl, _, h1, h⟩ := rd_cons h
  obtain ⟨_, _, rfl, _, h2, h⟩ := rd_cons h
  obtain ⟨_, _, rfl, _, h3, h⟩ := rd_cons h
  obtain rfl := h
  obtain ⟨r, rfl, i1⟩ := rd_rat' h1
  obtain ⟨s, rfl, i2⟩ := rd_rat' h2
  obtain ⟨X, Y, rfl, _⟩ := rd_pt h3
  exact ⟨r, s, X, Y, by simp, i1, i2⟩
theorem rowConstructors {n : Int} (h0 : Rd w shRat x0) (h1 : Rd w shRat x1) : Calls Try.prog 4 #[.agg x0.toArray, .agg x1.toArray, .int .i64 n] w (Done w) := by
  obtain ⟨r, rfl, i1⟩ := rd_rat' h0
  obtain ⟨s, rfl, i2⟩ := rd_rat' h1
  exact (lawConstructors i1 i2).mono fun _ _ h => law_end h
theorem rowApply (h0 : Rd w shAff x0) (h1 : Rd w shSpot x1) : Calls Try.prog 3 #[.agg x0.toArray, .agg x1.toArray] w (Done w) := by
  obtain ⟨t, rfl, it⟩ := rd_aff h0
  obtain ⟨r, s, X, Y, rfl, i1, i2⟩ := rd_spot h1
  exact (lawApply it i1 i2).mono fun _ _ h => law_end h
theorem rowCompose (h0 : Rd w (.cons 24 shAff (.cons 24 shAff (.cons 24 shAff .nil))) x0) (h1 : Rd w shSpot x1) : Calls Try.prog 5 #[.agg x0.toArray, .agg x1.toArray] w (Done w) := by
  obtain ⟨_, _, rfl, _, ha, h⟩ := rd_cons h0
  obtain ⟨_, _, rfl, _, hb, h⟩ := rd_cons h
  obtain ⟨_, _, rfl, _, hc, h⟩ := rd_cons h
  obtain rfl := h
  obtain ⟨a, rfl, ia⟩ := rd_aff ha
  obtain ⟨b, rfl, ib⟩ := rd_aff hb
  obtain ⟨c, rfl, ic⟩ := rd_aff hc
  obtain ⟨r, s, X, Y, rfl, i1, i2⟩ := rd_spot h1
  rw [List.append_nil]
  exact (lawCompose ia ib ic i1 i2).mono fun _ _ h => law_end h
theorem rowTranslate (h0 : Rd w shAff x0) (h1 : Rd w shPt x1) (h2 : Rd w shPt x2) : Calls Try.prog 6 #[.agg x0.toArray, .agg x1.toArray, .agg x2.toArray] w (Done w) := by
  obtain ⟨t, rfl, it⟩ := rd_aff h0
  obtain ⟨X, Y, rfl, _⟩ := rd_pt h1
  obtain ⟨A, B, rfl, _⟩ := rd_pt h2
  exact (lawTranslate it).mono fun _ _ h => law_end h
theorem rowTriCompose (h0 : Rd w shTri x0) (h1 : Rd w shTri x1) (h2 : Rd w shTri x2) : Calls Try.prog 7 #[.agg x0.toArray, .agg x1.toArray, .agg x2.toArray] w (Done w) := by
  obtain ⟨a, ha⟩ := rd_tri h0
  obtain ⟨b, hb⟩ := rd_tri h1
  obtain ⟨c, hc⟩ := rd_tri h2
  rw [ha, hb, hc]
  exact lawTriCompose.mono fun _ _ h => law_end h
theorem rowRecompose (h0 : Rd w shAff x0) : Calls Try.prog 8 #[.agg x0.toArray] w (Done w) := by
  obtain ⟨t, rfl, it⟩ := rd_aff h0
  exact (lawRecompose it).mono fun _ _ h => law_end h
end

end Go.Proofs.Ytfmcpplkmldhiaa
