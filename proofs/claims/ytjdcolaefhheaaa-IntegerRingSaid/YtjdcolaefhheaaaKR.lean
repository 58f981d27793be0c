/-
  The ring laws of integers.
-/
import Derived.Test.YtjdcolaefhheaaaQP
import Derived.Test.YtjdcolaefhheaaaHeldX
namespace Go.Proofs.Ytjdcolaefhheaaa
set_option linter.unusedVariables false
set_option linter.unusedSimpArgs false
open Go.RowKit

set_option maxRecDepth 100000 in
set_option maxHeartbeats 1000000 in
theorem isame_m {a b : SV} {x y : Int} {K1 K2 : Nat} {w : World} (ha : IsI a x K1 w) (hb : IsI b y K2 w) :
    Calls Try.prog 53 #[a.val, b.val] w (CallPost w (fun _ : Unit => .bool (sameB a b)) fun _ _ => True) := by
  have hla := ha.inn.len
  have hlb := hb.inn.len
  have hnI := ha.inn.lenI
  cases hs : (a.s != b.s)
  case true =>
    refine Good.enter Try.func53 rfl ?_
    refine Good.run (by kernel_rfl) (stop := 6) 1000 _ ?_
    refine Good.slot 11 (.bool (a.s != b.s)) (.bool true) (by kernel_rfl) (by rw [hs]) ?_
    refine Good.run (by kernel_rfl) (stop := 1000) 1000 _ ?_
    refine Good.cond true (by kernel_rfl) ?_
    refine Good.run (by kernel_rfl) (stop := 1000) 1000 _ ?_
    refine Good.ret (v := .bool false) (by kernel_rfl) (fun w1 hw h => ⟨(), by rw [sameB_no1 hs], hw, fun _ _ _ => trivial⟩)
  by_cases hn : a.n = b.n
  case neg =>
    have hne : a.l ≠ b.l := fun e => hn (by rw [← hla, ← hlb, e])
    refine Good.enter Try.func53 rfl ?_
    refine Good.run (by kernel_rfl) (stop := 6) 1000 _ ?_
    refine Good.slot 11 (.bool (a.s != b.s)) (.bool false) (by kernel_rfl) (by rw [hs]) ?_
    refine Good.run (by kernel_rfl) (stop := 1000) 1000 _ ?_
    refine Good.condr ((a.n : Int) != (b.n : Int)) true (by kernel_rfl) (by simp; omega) ?_
    refine Good.run (by kernel_rfl) (stop := 1000) 1000 _ ?_
    refine Good.ret (v := .bool false) (by kernel_rfl) (fun w1 hw h => ⟨(), by rw [sameB_no2 hne], hw, fun _ _ _ => trivial⟩)
  refine Good.enter Try.func53 rfl ?_
  refine Good.run (by kernel_rfl) (stop := 6) 1000 _ ?_
  refine Good.slot 11 (.bool (a.s != b.s)) (.bool false) (by kernel_rfl) (by rw [hs]) ?_
  refine Good.run (by kernel_rfl) (stop := 1000) 1000 _ ?_
  refine Good.condr ((a.n : Int) != (b.n : Int)) false (by kernel_rfl) (by simp; omega) ?_
  refine Good.run (by kernel_rfl) (stop := 1000) 1000 _ ?_
  refine Good.loop (ι := {k : Nat // k ≤ a.n ∧ ∀ i, i < k → dg a.l i = dg b.l i}) 38 (fun i => ⟨[(2, .p 2 0), (3, .p 3 0), (23, .v (.int .i64 i.1)), (22, .v (.int .i64 a.n))], [(2, [.v (.bool a.s), .v (.slice a.A a.n a.c)]), (3, [.v (.bool b.s), .v (.slice b.A b.n b.c)])]⟩) (fun _ _ => True) (fun i => a.n - i.1) (⟨0, by omega, by omega⟩) (by kernel_rfl) (fun _ => by kernel_rfl) ⟨by kernel_rfl, by kernel_rfl, by kernel_rfl⟩ (fun _ _ => trivial) ?_
  rintro ⟨k, hk, hkd⟩ g
  by_cases hlt : k < a.n
  ·
    refine Good.run (by kernel_rfl) (stop := 1000) 1000 _ ?_
    refine Good.condr (decide ((k : Int) < (a.n : Int))) true (by kernel_rfl) (by simp; omega) ?_
    refine Good.run (by kernel_rfl) (stop := 1000) 1000 _ ?_
    obtain ⟨ad, hA, hca⟩ := ha.inn.at_ (k := k) hlt
    obtain ⟨bd, hB, hcb⟩ := hb.inn.at_ (k := k) (by omega)
    refine Good.askAt 3 (idxS 22 (.slice a.A a.n a.c) k) (.pointer (some (ad.add k))) (by kernel_rfl) (fun w1 hw h => by rw [hA]; exact run_idxS (elem := 53) (by kernel_rfl) (by kernel_rfl) hlt) ?_
    refine Good.run (by kernel_rfl) (stop := 1000) 1000 _ ?_
    refine Good.askAt 4 (ldS 53 (ad.add k)) (.int .u32 (dg a.l k)) (by kernel_rfl) (fun w1 hw h => run_ldS (by kernel_rfl) (keepc hw hca)) ?_
    refine Good.run (by kernel_rfl) (stop := 1000) 1000 _ ?_
    refine Good.askAt 8 (idxS 22 (.slice b.A b.n b.c) k) (.pointer (some (bd.add k))) (by kernel_rfl) (fun w1 hw h => by rw [hB]; exact run_idxS (elem := 53) (by kernel_rfl) (by kernel_rfl) (by omega)) ?_
    refine Good.run (by kernel_rfl) (stop := 1000) 1000 _ ?_
    refine Good.askAt 9 (ldS 53 (bd.add k)) (.int .u32 (dg b.l k)) (by kernel_rfl) (fun w1 hw h => run_ldS (by kernel_rfl) (keepc hw hcb)) ?_
    refine Good.run (by kernel_rfl) (stop := 1000) 1000 _ ?_
    by_cases he : dg a.l k = dg b.l k
    ·
      refine Good.condr ((((dg a.l k : Nat) : Int) != ((dg b.l k : Nat) : Int))) false (by kernel_rfl) (by rw [he]; simp) ?_
      refine Good.run (by kernel_rfl) (stop := 1000) 1000 _ ?_
      refine Good.slot 23 (.int .i64 (IntKind.i64.wrap ((k : Int) + 1))) (.int .i64 ((k + 1 : Nat) : Int)) (by kernel_rfl) (by rw [wrap_succ hlt hnI]) ?_
      refine Good.next (⟨k + 1, by omega, lt_succ_all hkd he⟩) (by kernel_rfl) (by show a.n - (k + 1) < a.n - k; omega) ⟨by kernel_rfl, by kernel_rfl, by kernel_rfl⟩ (fun _ _ => trivial)
    ·
      refine Good.condr ((((dg a.l k : Nat) : Int) != ((dg b.l k : Nat) : Int))) true (by kernel_rfl) (by simp; omega) ?_
      refine Good.run (by kernel_rfl) (stop := 1000) 1000 _ ?_
      refine Good.leave (by kernel_rfl) ?_
      refine Good.run (by kernel_rfl) (stop := 1000) 1000 _ ?_
      refine Good.ret (v := .bool false) (by kernel_rfl) (fun w1 hw h => ⟨(), by rw [sameB_no2 fun e => he (by rw [e])], hw, fun _ _ _ => trivial⟩)
  ·
    refine Good.run (by kernel_rfl) (stop := 1000) 1000 _ ?_
    refine Good.condr (decide ((k : Int) < (a.n : Int))) false (by kernel_rfl) (by simp; omega) ?_
    refine Good.run (by kernel_rfl) (stop := 1000) 1000 _ ?_
    refine Good.leave (by kernel_rfl) ?_
    refine Good.run (by kernel_rfl) (stop := 1000) 1000 _ ?_
    have hl : a.l = b.l := dg_ext (by omega) fun i hi => hkd i (by omega)
    refine Good.ret (v := .bool true) (by kernel_rfl) (fun w1 hw h => ⟨(), by rw [sameB_yes hs hl], hw, fun _ _ _ => trivial⟩)
theorem isameM_v {a b : SV} {x y : Int} {K1 K2 : Nat} {w : World} {B : Bool} (hs : sameB a b = B) (ha : IsI a x K1 w) (hb : IsI b y K2 w) :
    Calls Try.prog 53 #[a.val, b.val] w (CallPost w (fun _ : Unit => .bool B) fun _ _ => True) := by subst hs; exact isame_m ha hb
theorem isameM_nn {a b : SV} {x y : Int} {K1 K2 : Nat} {w : World} {B : Bool} (ha : IsN a x K1 w) (hb : IsN b y K2 w) (h : decide (x = y) = B) : Calls Try.prog 53 #[a.val, b.val] w (CallPost w (fun _ : Unit => .bool B) fun _ _ => True) :=
  isameM_v (by rw [sameB_norm ha.i hb, isn_n2 ha, Bool.true_and]; exact h) ha.i hb.i
theorem iexample_m (w : World) : Calls Try.prog 41 #[] w (CallPost w (fun _ : Unit => .bool true) fun _ _ => True) := (iexample_c w).mono fun _ _ h => h.post
def FewL (l : List SV) : List (Bool × Option Addr × Nat × Nat) := l.map fun v => (v.s, v.A, v.n, v.c)
def fewB (most : Nat) (l : List SV) : Bool := l.all fun v => decide (v.n ≤ most)
theorem fewB_all (most : Nat) (l : List SV) : allFew most (FewL l) = fewB most l := by
  unfold allFew FewL fewB
  rw [List.all_map]; rfl
theorem few2_m {a b : SV} {most : Nat} {B : Bool} {w : World} {g : Nat} {t : TypeId} (hB : fewB most [a, b] = B) (hm : most ≤ 1000000) (h : litG t #[.bool a.s, .slice a.A a.n a.c, .bool b.s, .slice b.A b.n b.c] g w)
    (ha : (a.n : Int) ≤ 9223372036854775807) (hb : (b.n : Int) ≤ 9223372036854775807) :
    Calls Try.prog 40 #[.int .i64 (most : Int), litV 2 g] w (CallPost w (fun _ : Unit => .bool B) fun _ _ => True) := by
  refine (ifew_c (L := FewL [a, b]) (k := 2) (c := 2) (most := most) w (rowi2 (t := t) h ha hb) rfl (by omega) hm).mono fun _ _ h => ?_
  rw [fewB_all, hB] at h
  exact h.post
theorem few3_m {a b c : SV} {most : Nat} {B : Bool} {w : World} {g : Nat} {t : TypeId} (hB : fewB most [a, b, c] = B) (hm : most ≤ 1000000) (h : litG t #[.bool a.s, .slice a.A a.n a.c, .bool b.s, .slice b.A b.n b.c, .bool c.s, .slice c.A c.n c.c] g w)
    (ha : (a.n : Int) ≤ 9223372036854775807) (hb : (b.n : Int) ≤ 9223372036854775807) (hc : (c.n : Int) ≤ 9223372036854775807) :
    Calls Try.prog 40 #[.int .i64 (most : Int), litV 3 g] w (CallPost w (fun _ : Unit => .bool B) fun _ _ => True) := by
  refine (ifew_c (L := FewL [a, b, c]) (k := 3) (c := 3) (most := most) w (rowi3 (t := t) h ha hb hc) rfl (by omega) hm).mono fun _ _ h => ?_
  rw [fewB_all, hB] at h
  exact h.post
theorem IsI.lenI {a : SV} {x : Int} {K : Nat} {w : World} (h : IsI a x K w) : (a.n : Int) ≤ 9223372036854775807 := by have := h.inn.lenI; omega
set_option maxRecDepth 100000 in
set_option maxHeartbeats 1000000 in
theorem size_m {a : SV} {x : Int} {K : Nat} {w : World} (ha : IsI a x K w) (hK : K ≤ 68719476736) : Calls Try.prog 65 #[a.val] w (CallPost w SV.val fun v w => IsN v (x.natAbs : Int) K w) := by
  refine Good.enter Try.func65 rfl ?_
  refine Good.run (by kernel_rfl) (stop := 1000) 1000 _ ?_
  refine Good.callv (fun w1 hw h => inew_m (a := ⟨false, a.A, a.n, a.c, a.l⟩) (x := (x.natAbs : Int)) ⟨(ha.below hw).inn, by rw [ha.abs]; rfl, ha.le⟩ hK) (by kernel_rfl) (fun v => ?_)
  refine Good.run (by kernel_rfl) (stop := 1000) 1000 _ ?_
  refine Good.ret (v := SV.val v) (by kernel_rfl) (fun w1 hw h => ⟨v, rfl, hw, fun w'' k1 k2 => (h w'' k1 k2).2⟩)

theorem sgn_self0 (x y : Int) : (sgn (x + y - y - x) == 0) = true := by
  have : x + y - y - x = 0 := by omega
  rw [this]; rfl
theorem sgn_swap (x y : Int) : sgn (y - x) = - sgn (x - y) := by
  unfold sgn
  rcases Int.lt_trichotomy x y with h | h | h
  · rw [if_neg (by omega), if_neg (by omega), if_pos (by omega)]; rfl
  · subst h; simp
  · rw [if_pos (by omega), if_neg (by omega), if_neg (by omega)]
theorem sgn_mul (x y : Int) : sgn (x * y) = sgn x * sgn y := by
  have hp : ∀ a : Int, 0 < a → sgn a = 1 := fun a h => by unfold sgn; rw [if_neg (by omega), if_neg (by omega)]
  have hn : ∀ a : Int, a < 0 → sgn a = -1 := fun a h => by unfold sgn; rw [if_pos h]
  have hz : sgn 0 = 0 := rfl
  rcases Int.lt_trichotomy x 0 with h | h | h <;> rcases Int.lt_trichotomy y 0 with k | k | k
  · rw [hn _ h, hn _ k, hp _ (Int.mul_pos_of_neg_of_neg h k)]; rfl
  · subst k; simp [hz]
  · rw [hn _ h, hp _ k, hn _ (Int.mul_neg_of_neg_of_pos h k)]; rfl
  · subst h; simp [hz]
  · subst h; simp [hz]
  · subst h; simp [hz]
  · rw [hp _ h, hn _ k, hn _ (Int.mul_neg_of_pos_of_neg h k)]; rfl
  · subst k; simp [hz]
  · rw [hp _ h, hp _ k, hp _ (Int.mul_pos h k)]; rfl
theorem wrap_neg_sgn (x : Int) : IntKind.i64.wrap (-(sgn x)) = -(sgn x) := by
  refine IntWalk.i64_in _ ?_
  rcases sgn_is x with e | e | e <;> rw [e] <;> decide

set_option maxRecDepth 100000 in
set_option maxHeartbeats 4000000 in
theorem lawRing {a b c : SV} {x y z : Int} {K1 K2 K3 : Nat} {w : World} (ha : IsI a x K1 w) (hb : IsI b y K2 w) (hc : IsI c z K3 w) :
    Calls Try.prog 11 #[a.val, b.val, c.val] w (CallPost w (fun _ : Unit => .bool true) fun _ _ => True) := by
  cases hf : fewB 30 [a, b, c]
  ·
    refine Good.enter Try.func11 rfl ?_
    refine Good.run (by kernel_rfl) (stop := 1000) 1000 _ ?_
    refine Good.make (litS (51) 3 #[(0, a.val), (1, b.val), (2, c.val)]) (litV 3) (litG 24 #[.bool a.s, .slice a.A a.n a.c, .bool b.s, .slice b.A b.n b.c, .bool c.s, .slice c.A c.n c.c]) (by kernel_rfl) (fun w1 hw h => make_lit (by kernel_rfl)) (fun g => ?_)
    refine Good.run (by kernel_rfl) (stop := 1000) 1000 _ ?_
    refine Good.callv (fun w1 hw h => few3_m (most := 30) hf (by decide) h.2 ha.lenI hb.lenI hc.lenI) (by kernel_rfl) (fun u => ?_)
    refine Good.run (by kernel_rfl) (stop := 1000) 1000 _ ?_
    refine Good.cond true (by kernel_rfl) ?_
    refine Good.run (by kernel_rfl) (stop := 1000) 1000 _ ?_
    refine Good.callv (fun w1 hw h => iexample_m w1) (by kernel_rfl) (fun u => ?_)
    refine Good.run (by kernel_rfl) (stop := 1000) 1000 _ ?_
    refine Good.ret (v := .bool true) (by kernel_rfl) (fun w1 hw h => ⟨(), rfl, hw, fun _ _ _ => trivial⟩)
  · replace ha : IsI a x 30 w := ⟨ha.inn, ha.zi, by simp only [fewB, List.all_cons, Bool.and_eq_true, decide_eq_true_eq] at hf; exact hf.1⟩
    replace hb : IsI b y 30 w := ⟨hb.inn, hb.zi, by simp only [fewB, List.all_cons, Bool.and_eq_true, decide_eq_true_eq] at hf; exact hf.2.1⟩
    replace hc : IsI c z 30 w := ⟨hc.inn, hc.zi, by simp only [fewB, List.all_cons, Bool.and_eq_true, decide_eq_true_eq] at hf; exact hf.2.2.1⟩
    refine Good.enter Try.func11 rfl ?_
    refine Good.run (by kernel_rfl) (stop := 1000) 1000 _ ?_
    refine Good.make (litS (51) 3 #[(0, a.val), (1, b.val), (2, c.val)]) (litV 3) (litG 24 #[.bool a.s, .slice a.A a.n a.c, .bool b.s, .slice b.A b.n b.c, .bool c.s, .slice c.A c.n c.c]) (by kernel_rfl) (fun w1 hw h => make_lit (by kernel_rfl)) (fun g => ?_)
    refine Good.run (by kernel_rfl) (stop := 1000) 1000 _ ?_
    refine Good.callv (fun w1 hw h => few3_m (most := 30) hf (by decide) h.2 ha.lenI hb.lenI hc.lenI) (by kernel_rfl) (fun u => ?_)
    refine Good.run (by kernel_rfl) (stop := 1000) 1000 _ ?_
    refine Good.cond false (by kernel_rfl) ?_
    refine Good.run (by kernel_rfl) (stop := 1000) 1000 _ ?_
    refine Good.callv (fun w1 hw h => iadd_m (ha.below hw) (hb.below hw) (by decide)) (by kernel_rfl) (fun s => ?_)
    refine Good.run (by kernel_rfl) (stop := 1000) 1000 _ ?_
    refine Good.callv (fun w1 hw h => imul_m (ha.below hw) (hb.below hw) (by decide)) (by kernel_rfl) (fun p => ?_)
    refine Good.run (by kernel_rfl) (stop := 1000) 1000 _ ?_
    refine Good.callv (fun w1 hw h => iadd_m (hb.below hw) (ha.below hw) (by decide)) (by kernel_rfl) (fun d => ?_)
    refine Good.run (by kernel_rfl) (stop := 1000) 1000 _ ?_
    refine Good.callv (fun w1 hw h => isameM_nn (B := true) h.1.1.2 h.2 (decide_eq_true (Int.add_comm x y))) (by kernel_rfl) (fun u => ?_)
    refine Good.run (by kernel_rfl) (stop := 1000) 1000 _ ?_
    refine Good.callv (fun w1 hw h => imul_m (hb.below hw) (ha.below hw) (by decide)) (by kernel_rfl) (fun d => ?_)
    refine Good.run (by kernel_rfl) (stop := 1000) 1000 _ ?_
    refine Good.callv (fun w1 hw h => isameM_nn (B := true) h.1.1.1.2 h.2 (decide_eq_true (Int.mul_comm x y))) (by kernel_rfl) (fun u => ?_)
    refine Good.run (by kernel_rfl) (stop := 1000) 1000 _ ?_
    refine Good.callv (fun w1 hw h => iadd_m h.1.1.1.1.1.2.i (hc.below hw) (by decide)) (by kernel_rfl) (fun d => ?_)
    refine Good.run (by kernel_rfl) (stop := 1000) 1000 _ ?_
    refine Good.callv (fun w1 hw h => iadd_m (hb.below hw) (hc.below hw) (by decide)) (by kernel_rfl) (fun e => ?_)
    refine Good.run (by kernel_rfl) (stop := 1000) 1000 _ ?_
    refine Good.callv (fun w1 hw h => iadd_m (ha.below hw) h.2.i (by decide)) (by kernel_rfl) (fun f => ?_)
    refine Good.run (by kernel_rfl) (stop := 1000) 1000 _ ?_
    refine Good.callv (fun w1 hw h => isameM_nn (B := true) h.1.1.2 h.2 (decide_eq_true (Int.add_assoc x y z))) (by kernel_rfl) (fun u => ?_)
    refine Good.run (by kernel_rfl) (stop := 1000) 1000 _ ?_
    refine Good.callv (fun w1 hw h => imul_m h.1.1.1.1.1.1.1.1.2.i (hc.below hw) (by decide)) (by kernel_rfl) (fun d => ?_)
    refine Good.run (by kernel_rfl) (stop := 1000) 1000 _ ?_
    refine Good.callv (fun w1 hw h => imul_m (hb.below hw) (hc.below hw) (by decide)) (by kernel_rfl) (fun e => ?_)
    refine Good.run (by kernel_rfl) (stop := 1000) 1000 _ ?_
    refine Good.callv (fun w1 hw h => imul_m (ha.below hw) h.2.i (by decide)) (by kernel_rfl) (fun f => ?_)
    refine Good.run (by kernel_rfl) (stop := 1000) 1000 _ ?_
    refine Good.callv (fun w1 hw h => isameM_nn (B := true) h.1.1.2 h.2 (decide_eq_true (Int.mul_assoc x y z))) (by kernel_rfl) (fun u => ?_)
    refine Good.run (by kernel_rfl) (stop := 1000) 1000 _ ?_
    refine Good.callv (fun w1 hw h => imul_m h.1.1.1.1.1.1.1.1.1.1.1.1.1.2.i (hc.below hw) (by decide)) (by kernel_rfl) (fun d => ?_)
    refine Good.run (by kernel_rfl) (stop := 1000) 1000 _ ?_
    refine Good.callv (fun w1 hw h => imul_m (ha.below hw) (hc.below hw) (by decide)) (by kernel_rfl) (fun e => ?_)
    refine Good.run (by kernel_rfl) (stop := 1000) 1000 _ ?_
    refine Good.callv (fun w1 hw h => imul_m (hb.below hw) (hc.below hw) (by decide)) (by kernel_rfl) (fun f => ?_)
    refine Good.run (by kernel_rfl) (stop := 1000) 1000 _ ?_
    refine Good.callv (fun w1 hw h => iadd_m h.1.2.i h.2.i (by decide)) (by kernel_rfl) (fun g2 => ?_)
    refine Good.run (by kernel_rfl) (stop := 1000) 1000 _ ?_
    refine Good.callv (fun w1 hw h => isameM_nn (B := true) h.1.1.1.2 h.2 (decide_eq_true (Int.add_mul x y z))) (by kernel_rfl) (fun u => ?_)
    refine Good.run (by kernel_rfl) (stop := 1000) 1000 _ ?_
    refine Good.callv (fun w1 hw h => isub_m h.1.1.1.1.1.1.1.1.1.1.1.1.1.1.1.1.1.1.2.i (hb.below hw) (by decide)) (by kernel_rfl) (fun d => ?_)
    refine Good.run (by kernel_rfl) (stop := 1000) 1000 _ ?_
    refine Good.callv (fun w1 hw h => icmp_m h.2.i (ha.below hw) (by decide)) (by kernel_rfl) (fun u => ?_)
    refine Good.run (by kernel_rfl) (stop := 54) 1000 _ ?_
    refine Good.slot 75 (.bool (sgn (x + y - y - x) == 0)) (.bool true) (by kernel_rfl) (by rw [sgn_self0]) ?_
    refine Good.run (by kernel_rfl) (stop := 1000) 1000 _ ?_
    refine Good.callv (fun w1 hw h => icmp_m (ha.below hw) (hb.below hw) (by decide)) (by kernel_rfl) (fun u => ?_)
    refine Good.run (by kernel_rfl) (stop := 1000) 1000 _ ?_
    refine Good.callv (fun w1 hw h => icmp_m (hb.below hw) (ha.below hw) (by decide)) (by kernel_rfl) (fun u => ?_)
    refine Good.run (by kernel_rfl) (stop := 64) 1000 _ ?_
    refine Good.slot 85 (.bool (sgn (x - y) == IntKind.i64.wrap (0 - (sgn (y - x))))) (.bool true) (by kernel_rfl) (by rw [Int.zero_sub, wrap_neg_sgn, sgn_swap x y, Int.neg_neg]; simp) ?_
    refine Good.run (by kernel_rfl) (stop := 1000) 1000 _ ?_
    refine Good.callv (fun w1 hw h => isign_m h.1.1.1.1.1.1.1.1.1.1.1.1.1.1.1.1.1.1.1.1.1.2.i (by decide)) (by kernel_rfl) (fun u => ?_)
    refine Good.run (by kernel_rfl) (stop := 1000) 1000 _ ?_
    refine Good.callv (fun w1 hw h => isign_m (ha.below hw) (by decide)) (by kernel_rfl) (fun u => ?_)
    refine Good.run (by kernel_rfl) (stop := 1000) 1000 _ ?_
    refine Good.callv (fun w1 hw h => isign_m (hb.below hw) (by decide)) (by kernel_rfl) (fun u => ?_)
    refine Good.run (by kernel_rfl) (stop := 74) 1000 _ ?_
    refine Good.slot 95 (.bool (sgn (x * y) == IntKind.i64.wrap (sgn x * sgn y))) (.bool true) (by kernel_rfl) (by rw [wrap_sgn, sgn_mul]; simp) ?_
    refine Good.run (by kernel_rfl) (stop := 1000) 1000 _ ?_
    refine Good.callv (fun w1 hw h => iexample_m w1) (by kernel_rfl) (fun u => ?_)
    refine Good.run (by kernel_rfl) (stop := 1000) 1000 _ ?_
    refine Good.ret (v := .bool true) (by kernel_rfl) (fun w1 hw h => ⟨(), rfl, hw, fun _ _ _ => trivial⟩)

end Go.Proofs.Ytjdcolaefhheaaa
