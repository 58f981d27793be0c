/-
  The law of quotient and remainder.
-/
import Derived.Test.YtjdcolaefhheaaaQP
import Derived.Test.YtjdcolaefhheaaaHeldX
namespace Go.Proofs.Ytjdcolaefhheaaa
set_option linter.unusedVariables false
set_option linter.unusedSimpArgs false
open Go.RowKit

set_option maxRecDepth 100000 in
set_option maxHeartbeats 1000000 in
theorem isame_m {a b : SV} {x y : Int} {K1 K2 : Nat} {w : World} (ha : IsI a x K1 w) (hb : IsI b y K2 w) :
    Calls Try.prog 53 #[a.val, b.val] w (CallPost w (fun _ : Unit => .bool (sameB a b)) fun _ _ => True) := by
  have hla := ha.inn.len
  have hlb := hb.inn.len
  have hnI := ha.inn.lenI
  cases hs : (a.s != b.s)
  case true =>
    refine Good.enter Try.func53 rfl ?_
    refine Good.run (by kernel_rfl) (stop := 6) 1000 _ ?_
    refine Good.slot 11 (.bool (a.s != b.s)) (.bool true) (by kernel_rfl) (by rw [hs]) ?_
    refine Good.run (by kernel_rfl) (stop := 1000) 1000 _ ?_
    refine Good.cond true (by kernel_rfl) ?_
    refine Good.run (by kernel_rfl) (stop := 1000) 1000 _ ?_
    refine Good.ret (v := .bool false) (by kernel_rfl) (fun w1 hw h => ⟨(), by rw [sameB_no1 hs], hw, fun _ _ _ => trivial⟩)
  by_cases hn : a.n = b.n
  case neg =>
    have hne : a.l ≠ b.l := fun e => hn (by rw [← hla, ← hlb, e])
    refine Good.enter Try.func53 rfl ?_
    refine Good.run (by kernel_rfl) (stop := 6) 1000 _ ?_
    refine Good.slot 11 (.bool (a.s != b.s)) (.bool false) (by kernel_rfl) (by rw [hs]) ?_
    refine Good.run (by kernel_rfl) (stop := 1000) 1000 _ ?_
    refine Good.condr ((a.n : Int) != (b.n : Int)) true (by kernel_rfl) (by simp; omega) ?_
    refine Good.run (by kernel_rfl) (stop := 1000) 1000 _ ?_
    refine Good.ret (v := .bool false) (by kernel_rfl) (fun w1 hw h => ⟨(), by rw [sameB_no2 hne], hw, fun _ _ _ => trivial⟩)
  refine Good.enter Try.func53 rfl ?_
  refine Good.run (by kernel_rfl) (stop := 6) 1000 _ ?_
  refine Good.slot 11 (.bool (a.s != b.s)) (.bool false) (by kernel_rfl) (by rw [hs]) ?_
  refine Good.run (by kernel_rfl) (stop := 1000) 1000 _ ?_
  refine Good.condr ((a.n : Int) != (b.n : Int)) false (by kernel_rfl) (by simp; omega) ?_
  refine Good.run (by kernel_rfl) (stop := 1000) 1000 _ ?_
  refine Good.loop (ι := {k : Nat // k ≤ a.n ∧ ∀ i, i < k → dg a.l i = dg b.l i}) 38 (fun i => ⟨[(2, .p 2 0), (3, .p 3 0), (23, .v (.int .i64 i.1)), (22, .v (.int .i64 a.n))], [(2, [.v (.bool a.s), .v (.slice a.A a.n a.c)]), (3, [.v (.bool b.s), .v (.slice b.A b.n b.c)])]⟩) (fun _ _ => True) (fun i => a.n - i.1) (⟨0, by omega, by omega⟩) (by kernel_rfl) (fun _ => by kernel_rfl) ⟨by kernel_rfl, by kernel_rfl, by kernel_rfl⟩ (fun _ _ => trivial) ?_
  rintro ⟨k, hk, hkd⟩ g
  by_cases hlt : k < a.n
  ·
    refine Good.run (by kernel_rfl) (stop := 1000) 1000 _ ?_
    refine Good.condr (decide ((k : Int) < (a.n : Int))) true (by kernel_rfl) (by simp; omega) ?_
    refine Good.run (by kernel_rfl) (stop := 1000) 1000 _ ?_
    obtain ⟨ad, hA, hca⟩ := ha.inn.at_ (k := k) hlt
    obtain ⟨bd, hB, hcb⟩ := hb.inn.at_ (k := k) (by omega)
    refine Good.askAt 3 (idxS 22 (.slice a.A a.n a.c) k) (.pointer (some (ad.add k))) (by kernel_rfl) (fun w1 hw h => by rw [hA]; exact run_idxS (elem := 53) (by kernel_rfl) (by kernel_rfl) hlt) ?_
    refine Good.run (by kernel_rfl) (stop := 1000) 1000 _ ?_
    refine Good.askAt 4 (ldS 53 (ad.add k)) (.int .u32 (dg a.l k)) (by kernel_rfl) (fun w1 hw h => run_ldS (by kernel_rfl) (keepc hw hca)) ?_
    refine Good.run (by kernel_rfl) (stop := 1000) 1000 _ ?_
    refine Good.askAt 8 (idxS 22 (.slice b.A b.n b.c) k) (.pointer (some (bd.add k))) (by kernel_rfl) (fun w1 hw h => by rw [hB]; exact run_idxS (elem := 53) (by kernel_rfl) (by kernel_rfl) (by omega)) ?_
    refine Good.run (by kernel_rfl) (stop := 1000) 1000 _ ?_
    refine Good.askAt 9 (ldS 53 (bd.add k)) (.int .u32 (dg b.l k)) (by kernel_rfl) (fun w1 hw h => run_ldS (by kernel_rfl) (keepc hw hcb)) ?_
    refine Good.run (by kernel_rfl) (stop := 1000) 1000 _ ?_
    by_cases he : dg a.l k = dg b.l k
    ·
      refine Good.condr ((((dg a.l k : Nat) : Int) != ((dg b.l k : Nat) : Int))) false (by kernel_rfl) (by rw [he]; simp) ?_
      refine Good.run (by kernel_rfl) (stop := 1000) 1000 _ ?_
      refine Good.slot 23 (.int .i64 (IntKind.i64.wrap ((k : Int) + 1))) (.int .i64 ((k + 1 : Nat) : Int)) (by kernel_rfl) (by rw [wrap_succ hlt hnI]) ?_
      refine Good.next (⟨k + 1, by omega, lt_succ_all hkd he⟩) (by kernel_rfl) (by show a.n - (k + 1) < a.n - k; omega) ⟨by kernel_rfl, by kernel_rfl, by kernel_rfl⟩ (fun _ _ => trivial)
    ·
      refine Good.condr ((((dg a.l k : Nat) : Int) != ((dg b.l k : Nat) : Int))) true (by kernel_rfl) (by simp; omega) ?_
      refine Good.run (by kernel_rfl) (stop := 1000) 1000 _ ?_
      refine Good.leave (by kernel_rfl) ?_
      refine Good.run (by kernel_rfl) (stop := 1000) 1000 _ ?_
      refine Good.ret (v := .bool false) (by kernel_rfl) (fun w1 hw h => ⟨(), by rw [sameB_no2 fun e => he (by rw [e])], hw, fun _ _ _ => trivial⟩)
  ·
    refine Good.run (by kernel_rfl) (stop := 1000) 1000 _ ?_
    refine Good.condr (decide ((k : Int) < (a.n : Int))) false (by kernel_rfl) (by simp; omega) ?_
    refine Good.run (by kernel_rfl) (stop := 1000) 1000 _ ?_
    refine Good.leave (by kernel_rfl) ?_
    refine Good.run (by kernel_rfl) (stop := 1000) 1000 _ ?_
    have hl : a.l = b.l := dg_ext (by omega) fun i hi => hkd i (by omega)
    refine Good.ret (v := .bool true) (by kernel_rfl) (fun w1 hw h => ⟨(), by rw [sameB_yes hs hl], hw, fun _ _ _ => trivial⟩)
theorem isameM_v {a b : SV} {x y : Int} {K1 K2 : Nat} {w : World} {B : Bool} (hs : sameB a b = B) (ha : IsI a x K1 w) (hb : IsI b y K2 w) :
    Calls Try.prog 53 #[a.val, b.val] w (CallPost w (fun _ : Unit => .bool B) fun _ _ => True) := by subst hs; exact isame_m ha hb
theorem isameM_nn {a b : SV} {x y : Int} {K1 K2 : Nat} {w : World} {B : Bool} (ha : IsN a x K1 w) (hb : IsN b y K2 w) (h : decide (x = y) = B) : Calls Try.prog 53 #[a.val, b.val] w (CallPost w (fun _ : Unit => .bool B) fun _ _ => True) :=
  isameM_v (by rw [sameB_norm ha.i hb, isn_n2 ha, Bool.true_and]; exact h) ha.i hb.i
theorem iexample_m (w : World) : Calls Try.prog 41 #[] w (CallPost w (fun _ : Unit => .bool true) fun _ _ => True) := (iexample_c w).mono fun _ _ h => h.post
def FewL (l : List SV) : List (Bool × Option Addr × Nat × Nat) := l.map fun v => (v.s, v.A, v.n, v.c)
def fewB (most : Nat) (l : List SV) : Bool := l.all fun v => decide (v.n ≤ most)
theorem fewB_all (most : Nat) (l : List SV) : allFew most (FewL l) = fewB most l := by
  unfold allFew FewL fewB
  rw [List.all_map]; rfl
theorem few2_m {a b : SV} {most : Nat} {B : Bool} {w : World} {g : Nat} {t : TypeId} (hB : fewB most [a, b] = B) (hm : most ≤ 1000000) (h : litG t #[.bool a.s, .slice a.A a.n a.c, .bool b.s, .slice b.A b.n b.c] g w)
    (ha : (a.n : Int) ≤ 9223372036854775807) (hb : (b.n : Int) ≤ 9223372036854775807) :
    Calls Try.prog 40 #[.int .i64 (most : Int), litV 2 g] w (CallPost w (fun _ : Unit => .bool B) fun _ _ => True) := by
  refine (ifew_c (L := FewL [a, b]) (k := 2) (c := 2) (most := most) w (rowi2 (t := t) h ha hb) rfl (by omega) hm).mono fun _ _ h => ?_
  rw [fewB_all, hB] at h
  exact h.post
theorem few3_m {a b c : SV} {most : Nat} {B : Bool} {w : World} {g : Nat} {t : TypeId} (hB : fewB most [a, b, c] = B) (hm : most ≤ 1000000) (h : litG t #[.bool a.s, .slice a.A a.n a.c, .bool b.s, .slice b.A b.n b.c, .bool c.s, .slice c.A c.n c.c] g w)
    (ha : (a.n : Int) ≤ 9223372036854775807) (hb : (b.n : Int) ≤ 9223372036854775807) (hc : (c.n : Int) ≤ 9223372036854775807) :
    Calls Try.prog 40 #[.int .i64 (most : Int), litV 3 g] w (CallPost w (fun _ : Unit => .bool B) fun _ _ => True) := by
  refine (ifew_c (L := FewL [a, b, c]) (k := 3) (c := 3) (most := most) w (rowi3 (t := t) h ha hb hc) rfl (by omega) hm).mono fun _ _ h => ?_
  rw [fewB_all, hB] at h
  exact h.post
theorem IsI.lenI {a : SV} {x : Int} {K : Nat} {w : World} (h : IsI a x K w) : (a.n : Int) ≤ 9223372036854775807 := by have := h.inn.lenI; omega
set_option maxRecDepth 100000 in
set_option maxHeartbeats 1000000 in
theorem size_m {a : SV} {x : Int} {K : Nat} {w : World} (ha : IsI a x K w) (hK : K ≤ 68719476736) : Calls Try.prog 65 #[a.val] w (CallPost w SV.val fun v w => IsN v (x.natAbs : Int) K w) := by
  refine Good.enter Try.func65 rfl ?_
  refine Good.run (by kernel_rfl) (stop := 1000) 1000 _ ?_
  refine Good.callv (fun w1 hw h => inew_m (a := ⟨false, a.A, a.n, a.c, a.l⟩) (x := (x.natAbs : Int)) ⟨(ha.below hw).inn, by rw [ha.abs]; rfl, ha.le⟩ hK) (by kernel_rfl) (fun v => ?_)
  refine Good.run (by kernel_rfl) (stop := 1000) 1000 _ ?_
  refine Good.ret (v := SV.val v) (by kernel_rfl) (fun w1 hw h => ⟨v, rfl, hw, fun w'' k1 k2 => (h w'' k1 k2).2⟩)

theorem dm_eq {x y : Int} (hy : y ≠ 0) : quoI x y * y + remI x y = x := by
  unfold quoI remI
  rw [if_neg hy, if_neg hy, Int.mul_comm]
  exact Int.mul_fdiv_add_fmod x y
theorem rem_sign {x y : Int} (hy : y ≠ 0) : remI x y = 0 ∨ sgn (remI x y) = sgn y := by
  unfold remI
  rw [if_neg hy]
  rcases Int.lt_or_gt_of_ne hy with h | h
  · have h1 : x.fmod y ≤ 0 := by
      have h2 := Int.fmod_nonneg_of_pos (-x) (show 0 < -y by omega)
      rw [Int.neg_fmod_neg] at h2
      omega
    by_cases e : x.fmod y = 0
    · exact .inl e
    · right; unfold sgn; rw [if_pos (by omega), if_pos h]
  · have h1 := Int.fmod_nonneg_of_pos x h
    by_cases e : x.fmod y = 0
    · exact .inl e
    · right; unfold sgn; rw [if_neg (by omega), if_neg e, if_neg (by omega), if_neg hy]
theorem rnd_parts {x y : Int} (hy : y ≠ 0) : ∃ k r : Nat, 2 * x.natAbs + y.natAbs = 2 * (k * y.natAbs) + r ∧ r < 2 * y.natAbs ∧ rndI x y * y = (if x < 0 then -((k * y.natAbs : Nat) : Int) else ((k * y.natAbs : Nat) : Int)) := by
  have h1 := Nat.div_add_mod (2 * x.natAbs + y.natAbs) (2 * y.natAbs)
  have h2 := Nat.mod_lt (2 * x.natAbs + y.natAbs) (show 0 < 2 * y.natAbs by omega)
  refine ⟨(2 * x.natAbs + y.natAbs) / (2 * y.natAbs), (2 * x.natAbs + y.natAbs) % (2 * y.natAbs), ?_, h2, ?_⟩
  · rw [← h1]
    have : 2 * y.natAbs * ((2 * x.natAbs + y.natAbs) / (2 * y.natAbs)) = 2 * ((2 * x.natAbs + y.natAbs) / (2 * y.natAbs) * y.natAbs) := by
      rw [Nat.mul_assoc, Nat.mul_comm y.natAbs]
    rw [h1]; omega
  · unfold rndI
    rw [if_neg hy]
    generalize (2 * x.natAbs + y.natAbs) / (2 * y.natAbs) = k
    have hc : ((k * y.natAbs : Nat) : Int) = (k : Int) * (y.natAbs : Int) := by simp
    rw [hc]
    rcases Int.lt_or_gt_of_ne hy with h | h
    · rw [decide_eq_true h, show (y.natAbs : Int) = -y by omega]
      by_cases hx : x < 0
      · rw [decide_eq_true hx, if_pos hx]; simp [zi, Int.mul_neg, Int.neg_mul]
      · rw [decide_eq_false hx, if_neg hx]; simp [zi, Int.mul_neg, Int.neg_mul]
    · rw [decide_eq_false (show ¬ y < 0 by omega), show (y.natAbs : Int) = y by omega]
      by_cases hx : x < 0
      · rw [decide_eq_true hx, if_pos hx]; simp [zi, Int.mul_neg, Int.neg_mul]
      · rw [decide_eq_false hx, if_neg hx]; simp [zi, Int.mul_neg, Int.neg_mul]
/-- How far off: at most a half; if it is a half, then on the far side. -/
theorem rnd_off {x y : Int} (hy : y ≠ 0) : ((x - rndI x y * y).natAbs : Int) + ((x - rndI x y * y).natAbs : Int) - (y.natAbs : Int) ≤ 0 ∧
    (((x - rndI x y * y).natAbs : Int) + ((x - rndI x y * y).natAbs : Int) - (y.natAbs : Int) = 0 → 0 < (((rndI x y * y).natAbs : Int) - (x.natAbs : Int))) := by
  obtain ⟨k, r, h1, h2, h3⟩ := rnd_parts (x := x) hy
  rw [h3]
  split at h3 <;> rename_i hx <;> simp only [hx, if_true, if_false] <;> omega
theorem rnd_neg {x y : Int} : rndI (-x) (-y) = rndI x y := by
  unfold rndI
  by_cases hy : y = 0
  · subst hy; simp
  · rw [if_neg hy, if_neg (by omega), Int.natAbs_neg, Int.natAbs_neg]
    by_cases hx : x = 0
    · subst hx
      have : (2 * (0 : Int).natAbs + y.natAbs) / (2 * y.natAbs) = 0 := Nat.div_eq_of_lt (by simp; omega)
      rw [this]; simp [zi]
    · congr 1
      rcases Int.lt_or_gt_of_ne hy with h | h <;> rcases Int.lt_or_gt_of_ne hx with k | k <;> simp [h, k, Int.lt_asymm] <;> omega

section
variable {a b : SV} {x y e : Int} {K1 K2 : Nat} {w : World}
def DValE (e : Int) (q : SV × SV) : Value := .tuple #[q.1.val, q.2.val, .int .i64 e]
def RndE (e : Int) (v : SV) : Value := .tuple #[v.val, .int .i64 e]
theorem idivmod_e (he : divEI y = e) (ha : IsI a x K1 w) (hb : IsI b y K2 w) (hK : K1 ≤ 17179869184 ∧ K2 ≤ 17179869184) : Calls Try.prog 55 #[a.val, b.val] w (CallPost w (DValE e) fun q w => IsN q.1 (quoI x y) (K1 + 1) w ∧ IsN q.2 (remI x y) K2 w) := by
  subst he; exact idivmod_m ha hb hK
theorem idivround_e (he : divEI y = e) (ha : IsI a x K1 w) (hb : IsI b y K2 w) (hK : K1 ≤ 4294967296 ∧ K2 ≤ 4294967296) : Calls Try.prog 57 #[a.val, b.val] w (CallPost w (RndE e) fun v w => IsN v (rndI x y) (K1 + 1) w) := by
  subst he; exact (idivround_c w ha hb hK).mono fun _ _ h => h.post
theorem isN0 (w : World) : IsN SV0 0 0 w := ⟨⟨In.nil_, rfl, Nat.le_refl _⟩, ⟨(In.nil_ (w := w)).dig, Or.inl rfl⟩, rfl⟩
theorem icmp_v' {v : Int} (hv : sgn (x - y) = v) (ha : IsI a x K1 w) (hb : IsI b y K2 w) (hK : K1 ≤ 68719476736 ∧ K2 ≤ 68719476736) : Calls Try.prog 43 #[a.val, b.val] w (CallPost w (fun _ : Unit => .int .i64 v) fun _ _ => True) := by
  subst hv; exact icmp_m ha hb hK
theorem isign_v' {v : Int} (hv : sgn x = v) (ha : IsI a x K1 w) (hK : K1 ≤ 68719476736) : Calls Try.prog 64 #[a.val] w (CallPost w (fun _ : Unit => .int .i64 v) fun _ _ => True) := by
  subst hv; exact isign_m ha hK
theorem sgn_nz (y : Int) : (sgn y == 0) = decide (y = 0) := sgn_zero y
theorem sgn_n {x : Int} (h : x < 0) : sgn x = -1 := if_pos h
theorem sgn_z {x : Int} (h : x = 0) : sgn x = 0 := by rw [h]; rfl
theorem sgn_p {x : Int} (h : 0 < x) : sgn x = 1 := by unfold sgn; rw [if_neg (by omega), if_neg (by omega)]

set_option maxRecDepth 100000 in
set_option maxHeartbeats 4000000 in
theorem lawDivMod (ha : IsI a x K1 w) (hb : IsI b y K2 w) :
    Calls Try.prog 10 #[a.val, b.val] w (CallPost w (fun _ : Unit => .bool true) fun _ _ => True) := by
  cases hf : fewB 40 [a, b]
  case false =>
    refine Good.enter Try.func10 rfl ?_
    refine Good.run (by kernel_rfl) (stop := 1000) 1000 _ ?_
    refine Good.make (litS (51) 2 #[(0, a.val), (1, b.val)]) (litV 2) (litG 24 #[.bool a.s, .slice a.A a.n a.c, .bool b.s, .slice b.A b.n b.c]) (by kernel_rfl) (fun w1 hw h => make_lit (by kernel_rfl)) (fun g => ?_)
    refine Good.run (by kernel_rfl) (stop := 1000) 1000 _ ?_
    refine Good.callv (fun w1 hw h => few2_m (most := 40) hf (by decide) h.2 ha.lenI hb.lenI) (by kernel_rfl) (fun u => ?_)
    refine Good.run (by kernel_rfl) (stop := 1000) 1000 _ ?_
    refine Good.cond true (by kernel_rfl) ?_
    refine Good.run (by kernel_rfl) (stop := 1000) 1000 _ ?_
    refine Good.callv (fun w1 hw h => iexample_m w1) (by kernel_rfl) (fun u => ?_)
    refine Good.run (by kernel_rfl) (stop := 1000) 1000 _ ?_
    refine Good.ret (v := .bool true) (by kernel_rfl) (fun w1 hw h => ⟨(), rfl, hw, fun _ _ _ => trivial⟩)
  replace ha : IsI a x 40 w := ⟨ha.inn, ha.zi, by simp only [fewB, List.all_cons, Bool.and_eq_true, decide_eq_true_eq] at hf; exact hf.1⟩
  replace hb : IsI b y 40 w := ⟨hb.inn, hb.zi, by simp only [fewB, List.all_cons, Bool.and_eq_true, decide_eq_true_eq] at hf; exact hf.2.1⟩
  by_cases hy : y = 0
  · have q0 : quoI x y = 0 := if_pos hy
    have r0 : remI x y = 0 := if_pos hy
    have n0 : rndI x y = 0 := if_pos hy
    refine Good.enter Try.func10 rfl ?_
    refine Good.run (by kernel_rfl) (stop := 1000) 1000 _ ?_
    refine Good.make (litS (51) 2 #[(0, a.val), (1, b.val)]) (litV 2) (litG 24 #[.bool a.s, .slice a.A a.n a.c, .bool b.s, .slice b.A b.n b.c]) (by kernel_rfl) (fun w1 hw h => make_lit (by kernel_rfl)) (fun g => ?_)
    refine Good.run (by kernel_rfl) (stop := 1000) 1000 _ ?_
    refine Good.callv (fun w1 hw h => few2_m (most := 40) hf (by decide) h.2 ha.lenI hb.lenI) (by kernel_rfl) (fun u => ?_)
    refine Good.run (by kernel_rfl) (stop := 1000) 1000 _ ?_
    refine Good.cond false (by kernel_rfl) ?_
    refine Good.run (by kernel_rfl) (stop := 1000) 1000 _ ?_
    refine Good.callv (fun w1 hw h => idivmod_e (divEI_yes hy) (ha.below hw) (hb.below hw) (by decide)) (by kernel_rfl) (fun q => ?_)
    refine Good.run (by kernel_rfl) (stop := 1000) 1000 _ ?_
    refine Good.callv (fun w1 hw h => idivround_e (divEI_yes hy) (ha.below hw) (hb.below hw) (by decide)) (by kernel_rfl) (fun n => ?_)
    refine Good.run (by kernel_rfl) (stop := 1000) 1000 _ ?_
    refine Good.callv (fun w1 hw h => isign_v' (sgn_z hy) (hb.below hw) (by decide)) (by kernel_rfl) (fun u => ?_)
    refine Good.run (by kernel_rfl) (stop := 1000) 1000 _ ?_
    refine Good.cond true (by kernel_rfl) ?_
    refine Good.run (by kernel_rfl) (stop := 1000) 1000 _ ?_
    refine Good.callv (fun w1 hw h => isameM_nn (B := true) (b := SV0) h.1.1.2.1 (isN0 w1) (decide_eq_true q0)) (by kernel_rfl) (fun u => ?_)
    refine Good.run (by kernel_rfl) (stop := 1000) 1000 _ ?_
    refine Good.callv (fun w1 hw h => isameM_nn (B := true) (b := SV0) h.1.1.1.2.2 (isN0 w1) (decide_eq_true r0)) (by kernel_rfl) (fun u => ?_)
    refine Good.run (by kernel_rfl) (stop := 1000) 1000 _ ?_
    refine Good.callv (fun w1 hw h => isameM_nn (B := true) (b := SV0) h.1.1.1.2 (isN0 w1) (decide_eq_true n0)) (by kernel_rfl) (fun u => ?_)
    refine Good.run (by kernel_rfl) (stop := 1000) 1000 _ ?_
    refine Good.callv (fun w1 hw h => iexample_m w1) (by kernel_rfl) (fun u => ?_)
    refine Good.run (by kernel_rfl) (stop := 1000) 1000 _ ?_
    refine Good.ret (v := .bool true) (by kernel_rfl) (fun w1 hw h => ⟨(), rfl, hw, fun _ _ _ => trivial⟩)
  have hdm : sgn (quoI x y * y + remI x y - x) = 0 := sgn_z (by have := dm_eq (x := x) hy; omega)
  have hrl : sgn (((remI x y).natAbs : Int) - (y.natAbs : Int)) = -1 := sgn_n (by have := fmod_lt_abs x y hy; unfold remI; rw [if_neg hy]; omega)
  have hoff := rnd_off (x := x) hy
  have rest : ∀ s : Int, sgn y = s → s ≠ 0 → ∀ sr : Int, sgn (remI x y) = sr → (sr = 0 ∨ sr = s) → (s = 1 ∨ s = -1) → ∀ c : Int, sgn (((x - rndI x y * y).natAbs : Int) + ((x - rndI x y * y).natAbs : Int) - (y.natAbs : Int)) = c →
      (c = -1 ∨ (c = 0 ∧ sgn (((rndI x y * y).natAbs : Int) - (x.natAbs : Int)) = 1)) → Calls Try.prog 10 #[a.val, b.val] w (CallPost w (fun _ : Unit => .bool true) fun _ _ => True) := by
    intro s hs hs0 sr hsr hsrs hs1 c hc hcc
    have hsb : (s == 0) = false := by simpa using hs0
    refine Good.enter Try.func10 rfl ?_
    refine Good.run (by kernel_rfl) (stop := 1000) 1000 _ ?_
    refine Good.make (litS (51) 2 #[(0, a.val), (1, b.val)]) (litV 2) (litG 24 #[.bool a.s, .slice a.A a.n a.c, .bool b.s, .slice b.A b.n b.c]) (by kernel_rfl) (fun w1 hw h => make_lit (by kernel_rfl)) (fun g => ?_)
    refine Good.run (by kernel_rfl) (stop := 1000) 1000 _ ?_
    refine Good.callv (fun w1 hw h => few2_m (most := 40) hf (by decide) h.2 ha.lenI hb.lenI) (by kernel_rfl) (fun u => ?_)
    refine Good.run (by kernel_rfl) (stop := 1000) 1000 _ ?_
    refine Good.cond false (by kernel_rfl) ?_
    refine Good.run (by kernel_rfl) (stop := 1000) 1000 _ ?_
    refine Good.callv (fun w1 hw h => idivmod_e (divEI_no hy) (ha.below hw) (hb.below hw) (by decide)) (by kernel_rfl) (fun q => ?_)
    refine Good.run (by kernel_rfl) (stop := 1000) 1000 _ ?_
    refine Good.callv (fun w1 hw h => idivround_e (divEI_no hy) (ha.below hw) (hb.below hw) (by decide)) (by kernel_rfl) (fun n => ?_)
    refine Good.run (by kernel_rfl) (stop := 1000) 1000 _ ?_
    refine Good.callv (fun w1 hw h => isign_v' hs (hb.below hw) (by decide)) (by kernel_rfl) (fun u => ?_)
    refine Good.run (by kernel_rfl) (stop := 1000) 1000 _ ?_
    refine Good.condr (s == 0) false (by kernel_rfl) (hsb) ?_
    refine Good.run (by kernel_rfl) (stop := 1000) 1000 _ ?_
    refine Good.callv (fun w1 hw h => imul_m h.1.1.2.1.i (hb.below hw) (by decide)) (by kernel_rfl) (fun m => ?_)
    refine Good.run (by kernel_rfl) (stop := 1000) 1000 _ ?_
    refine Good.callv (fun w1 hw h => iadd_m h.2.i h.1.1.1.2.2.i (by decide)) (by kernel_rfl) (fun t => ?_)
    refine Good.run (by kernel_rfl) (stop := 1000) 1000 _ ?_
    refine Good.callv (fun w1 hw h => icmp_v' hdm h.2.i (ha.below hw) (by decide)) (by kernel_rfl) (fun u => ?_)
    refine Good.run (by kernel_rfl) (stop := 1000) 1000 _ ?_
    refine Good.callv (fun w1 hw h => size_m h.1.1.1.1.1.2.2.i (by decide)) (by kernel_rfl) (fun d => ?_)
    refine Good.run (by kernel_rfl) (stop := 1000) 1000 _ ?_
    refine Good.callv (fun w1 hw h => size_m (hb.below hw) (by decide)) (by kernel_rfl) (fun e => ?_)
    refine Good.run (by kernel_rfl) (stop := 1000) 1000 _ ?_
    refine Good.callv (fun w1 hw h => icmp_v' hrl h.1.2.i h.2.i (by decide)) (by kernel_rfl) (fun u => ?_)
    refine Good.run (by kernel_rfl) (stop := 1000) 1000 _ ?_
    have hss : (s != s) = false := by simp
    rcases hsrs with rfl | rfl
    ·
      refine Good.callv (fun w1 hw h => isign_v' hsr h.1.1.1.1.1.1.1.1.2.2.i (by decide)) (by kernel_rfl) (fun u => ?_)
      refine Good.run (by kernel_rfl) (stop := 1000) 1000 _ ?_
      refine Good.cond false (by kernel_rfl) ?_
      refine Good.run (by kernel_rfl) (stop := 1000) 1000 _ ?_
      refine Good.callv (fun w1 hw h => imul_m h.1.1.1.1.1.1.1.1.2.i (hb.below hw) (by decide)) (by kernel_rfl) (fun m => ?_)
      refine Good.run (by kernel_rfl) (stop := 1000) 1000 _ ?_
      refine Good.callv (fun w1 hw h => isub_m (ha.below hw) h.2.i (by decide)) (by kernel_rfl) (fun o => ?_)
      refine Good.run (by kernel_rfl) (stop := 1000) 1000 _ ?_
      refine Good.callv (fun w1 hw h => size_m h.2.i (by decide)) (by kernel_rfl) (fun o => ?_)
      refine Good.run (by kernel_rfl) (stop := 1000) 1000 _ ?_
      refine Good.callv (fun w1 hw h => iadd_m h.2.i h.2.i (by decide)) (by kernel_rfl) (fun t => ?_)
      refine Good.run (by kernel_rfl) (stop := 1000) 1000 _ ?_
      refine Good.callv (fun w1 hw h => size_m (hb.below hw) (by decide)) (by kernel_rfl) (fun e => ?_)
      refine Good.run (by kernel_rfl) (stop := 1000) 1000 _ ?_
      refine Good.callv (fun w1 hw h => icmp_v' hc h.1.2.i h.2.i (by decide)) (by kernel_rfl) (fun u => ?_)
      refine Good.run (by kernel_rfl) (stop := 1000) 1000 _ ?_
      refine Good.callv (fun w1 hw h => ineg_m (ha.below hw) (by decide)) (by kernel_rfl) (fun A => ?_)
      refine Good.run (by kernel_rfl) (stop := 1000) 1000 _ ?_
      refine Good.callv (fun w1 hw h => ineg_m (hb.below hw) (by decide)) (by kernel_rfl) (fun B => ?_)
      refine Good.run (by kernel_rfl) (stop := 1000) 1000 _ ?_
      refine Good.callv (fun w1 hw h => idivround_e (divEI_no (by omega)) h.1.2.i h.2.i (by decide)) (by kernel_rfl) (fun N => ?_)
      refine Good.run (by kernel_rfl) (stop := 1000) 1000 _ ?_
      rcases hcc with rfl | ⟨rfl, hg⟩
      ·
        refine Good.callv (fun w1 hw h => isameM_nn (B := true) h.2 h.1.1.1.1.1.1.1.1.1.1.1.1.1.1.1.1.1.2 (decide_eq_true rnd_neg)) (by kernel_rfl) (fun u => ?_)
        refine Good.run (by kernel_rfl) (stop := 1000) 1000 _ ?_
        refine Good.callv (fun w1 hw h => iexample_m w1) (by kernel_rfl) (fun u => ?_)
        refine Good.run (by kernel_rfl) (stop := 1000) 1000 _ ?_
        refine Good.ret (v := .bool true) (by kernel_rfl) (fun w1 hw h => ⟨(), rfl, hw, fun _ _ _ => trivial⟩)
      ·
        refine Good.callv (fun w1 hw h => imul_m h.1.1.1.1.1.1.1.1.1.1.1.1.1.1.1.1.1.2.i (hb.below hw) (by decide)) (by kernel_rfl) (fun m => ?_)
        refine Good.run (by kernel_rfl) (stop := 1000) 1000 _ ?_
        refine Good.callv (fun w1 hw h => size_m h.2.i (by decide)) (by kernel_rfl) (fun p => ?_)
        refine Good.run (by kernel_rfl) (stop := 1000) 1000 _ ?_
        refine Good.callv (fun w1 hw h => size_m (ha.below hw) (by decide)) (by kernel_rfl) (fun q2 => ?_)
        refine Good.run (by kernel_rfl) (stop := 1000) 1000 _ ?_
        refine Good.callv (fun w1 hw h => icmp_v' hg h.1.2.i h.2.i (by decide)) (by kernel_rfl) (fun u => ?_)
        refine Good.run (by kernel_rfl) (stop := 1000) 1000 _ ?_
        refine Good.callv (fun w1 hw h => isameM_nn (B := true) h.1.1.1.1.2 h.1.1.1.1.1.1.1.1.1.1.1.1.1.1.1.1.1.1.1.1.1.2 (decide_eq_true rnd_neg)) (by kernel_rfl) (fun u => ?_)
        refine Good.run (by kernel_rfl) (stop := 1000) 1000 _ ?_
        refine Good.callv (fun w1 hw h => iexample_m w1) (by kernel_rfl) (fun u => ?_)
        refine Good.run (by kernel_rfl) (stop := 1000) 1000 _ ?_
        refine Good.ret (v := .bool true) (by kernel_rfl) (fun w1 hw h => ⟨(), rfl, hw, fun _ _ _ => trivial⟩)
    ·
      refine Good.callv (fun w1 hw h => isign_v' hsr h.1.1.1.1.1.1.1.1.2.2.i (by decide)) (by kernel_rfl) (fun u => ?_)
      refine Good.run (by kernel_rfl) (stop := 28) 1000 _ ?_
      refine Good.slot 87 (.bool (sr != 0)) (.bool true) (by kernel_rfl) (by rw [bne, hsb]; rfl) ?_
      refine Good.run (by kernel_rfl) (stop := 1000) 1000 _ ?_
      refine Good.callv (fun w1 hw h => isign_v' hsr h.1.1.1.1.1.1.1.1.1.2.2.i (by decide)) (by kernel_rfl) (fun u => ?_)
      refine Good.run (by kernel_rfl) (stop := 1000) 1000 _ ?_
      refine Good.callv (fun w1 hw h => isign_v' hs (hb.below hw) (by decide)) (by kernel_rfl) (fun u => ?_)
      refine Good.run (by kernel_rfl) (stop := 34) 1000 _ ?_
      refine Good.slot 93 (.bool (sr != sr)) (.bool false) (by kernel_rfl) (by rw [hss]) ?_
      refine Good.run (by kernel_rfl) (stop := 1000) 1000 _ ?_
      refine Good.cond false (by kernel_rfl) ?_
      refine Good.run (by kernel_rfl) (stop := 1000) 1000 _ ?_
      refine Good.callv (fun w1 hw h => imul_m h.1.1.1.1.1.1.1.1.1.1.2.i (hb.below hw) (by decide)) (by kernel_rfl) (fun m => ?_)
      refine Good.run (by kernel_rfl) (stop := 1000) 1000 _ ?_
      refine Good.callv (fun w1 hw h => isub_m (ha.below hw) h.2.i (by decide)) (by kernel_rfl) (fun o => ?_)
      refine Good.run (by kernel_rfl) (stop := 1000) 1000 _ ?_
      refine Good.callv (fun w1 hw h => size_m h.2.i (by decide)) (by kernel_rfl) (fun o => ?_)
      refine Good.run (by kernel_rfl) (stop := 1000) 1000 _ ?_
      refine Good.callv (fun w1 hw h => iadd_m h.2.i h.2.i (by decide)) (by kernel_rfl) (fun t => ?_)
      refine Good.run (by kernel_rfl) (stop := 1000) 1000 _ ?_
      refine Good.callv (fun w1 hw h => size_m (hb.below hw) (by decide)) (by kernel_rfl) (fun e => ?_)
      refine Good.run (by kernel_rfl) (stop := 1000) 1000 _ ?_
      refine Good.callv (fun w1 hw h => icmp_v' hc h.1.2.i h.2.i (by decide)) (by kernel_rfl) (fun u => ?_)
      refine Good.run (by kernel_rfl) (stop := 1000) 1000 _ ?_
      refine Good.callv (fun w1 hw h => ineg_m (ha.below hw) (by decide)) (by kernel_rfl) (fun A => ?_)
      refine Good.run (by kernel_rfl) (stop := 1000) 1000 _ ?_
      refine Good.callv (fun w1 hw h => ineg_m (hb.below hw) (by decide)) (by kernel_rfl) (fun B => ?_)
      refine Good.run (by kernel_rfl) (stop := 1000) 1000 _ ?_
      refine Good.callv (fun w1 hw h => idivround_e (divEI_no (by omega)) h.1.2.i h.2.i (by decide)) (by kernel_rfl) (fun N => ?_)
      refine Good.run (by kernel_rfl) (stop := 1000) 1000 _ ?_
      rcases hcc with rfl | ⟨rfl, hg⟩
      ·
        refine Good.callv (fun w1 hw h => isameM_nn (B := true) h.2 h.1.1.1.1.1.1.1.1.1.1.1.1.1.1.1.1.1.1.1.2 (decide_eq_true rnd_neg)) (by kernel_rfl) (fun u => ?_)
        refine Good.run (by kernel_rfl) (stop := 1000) 1000 _ ?_
        refine Good.callv (fun w1 hw h => iexample_m w1) (by kernel_rfl) (fun u => ?_)
        refine Good.run (by kernel_rfl) (stop := 1000) 1000 _ ?_
        refine Good.ret (v := .bool true) (by kernel_rfl) (fun w1 hw h => ⟨(), rfl, hw, fun _ _ _ => trivial⟩)
      ·
        refine Good.callv (fun w1 hw h => imul_m h.1.1.1.1.1.1.1.1.1.1.1.1.1.1.1.1.1.1.1.2.i (hb.below hw) (by decide)) (by kernel_rfl) (fun m => ?_)
        refine Good.run (by kernel_rfl) (stop := 1000) 1000 _ ?_
        refine Good.callv (fun w1 hw h => size_m h.2.i (by decide)) (by kernel_rfl) (fun p => ?_)
        refine Good.run (by kernel_rfl) (stop := 1000) 1000 _ ?_
        refine Good.callv (fun w1 hw h => size_m (ha.below hw) (by decide)) (by kernel_rfl) (fun q2 => ?_)
        refine Good.run (by kernel_rfl) (stop := 1000) 1000 _ ?_
        refine Good.callv (fun w1 hw h => icmp_v' hg h.1.2.i h.2.i (by decide)) (by kernel_rfl) (fun u => ?_)
        refine Good.run (by kernel_rfl) (stop := 1000) 1000 _ ?_
        refine Good.callv (fun w1 hw h => isameM_nn (B := true) h.1.1.1.1.2 h.1.1.1.1.1.1.1.1.1.1.1.1.1.1.1.1.1.1.1.1.1.1.1.2 (decide_eq_true rnd_neg)) (by kernel_rfl) (fun u => ?_)
        refine Good.run (by kernel_rfl) (stop := 1000) 1000 _ ?_
        refine Good.callv (fun w1 hw h => iexample_m w1) (by kernel_rfl) (fun u => ?_)
        refine Good.run (by kernel_rfl) (stop := 1000) 1000 _ ?_
        refine Good.ret (v := .bool true) (by kernel_rfl) (fun w1 hw h => ⟨(), rfl, hw, fun _ _ _ => trivial⟩)
  have hc : sgn (((x - rndI x y * y).natAbs : Int) + ((x - rndI x y * y).natAbs : Int) - (y.natAbs : Int)) = -1 ∨ (sgn (((x - rndI x y * y).natAbs : Int) + ((x - rndI x y * y).natAbs : Int) - (y.natAbs : Int)) = 0 ∧ sgn (((rndI x y * y).natAbs : Int) - (x.natAbs : Int)) = 1) := by
    rcases Int.lt_or_eq_of_le hoff.1 with h | h
    · exact .inl (sgn_n h)
    · exact .inr ⟨sgn_z h, sgn_p (hoff.2 h)⟩
  have hs0 : sgn y ≠ 0 := by
    rcases Int.lt_or_gt_of_ne hy with h | h
    · rw [sgn_n h]; decide
    · rw [sgn_p h]; decide
  exact rest _ rfl hs0 _ rfl (by rcases rem_sign (x := x) hy with h | h; exact .inl (sgn_z h); exact .inr h) (by rcases sgn_is y with h | h | h; exact .inr h; exact absurd h hs0; exact .inl h) _ rfl hc
end

end Go.Proofs.Ytjdcolaefhheaaa
