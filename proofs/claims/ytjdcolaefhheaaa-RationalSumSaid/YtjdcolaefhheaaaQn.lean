/-
  The laws of fractions: what is made is new.
-/
import Derived.Test.YtjdcolaefhheaaaQm
namespace Go.Proofs.Ytjdcolaefhheaaa
set_option linter.unusedVariables false
set_option linter.unusedSimpArgs false
open Go.RowKit

theorem CallPost.freshN {X : Type} {w : World} {val : X → Value} {G : X → World → Prop} {e : Ending} {w' : World} (h : CallPost w val G e w') (L : X → List Nat)
    (hL : ∀ x w, G x w → ∀ b ∈ L x, ∃ cs ty own, w.heap[b]? = some (.cells cs ty own)) {N : Nat} (hN : N ≤ w.heap.size) :
    CallPost w (fun q : X × Nat => val q.1) (fun q u => G q.1 u ∧ (∀ b ∈ L q.1, N ≤ b ∧ b < q.2) ∧ q.2 ≤ u.heap.size ∧ N ≤ q.2) e w' := by
  have hs : w.heap.size ≤ w'.heap.size := by obtain ⟨_, _, hb, _⟩ := h; exact hb.size
  obtain ⟨x, rfl, hb, hG⟩ := h
  obtain ⟨y, he, hb', hG'⟩ := CallPost.fresh ⟨x, rfl, hb, hG⟩ L hL
  have hy := hG' w' (Nat.le_refl _) fun _ _ _ => rfl
  refine ⟨(y.1, w'.heap.size), he, hb', fun w'' h1 h2 => ⟨(hG' w'' h1 h2).1, fun b hb => ⟨Nat.le_trans hN (hy.2.1 b hb).1, ?_⟩, h1, Nat.le_trans hN hs⟩⟩
  exact Nat.lt_of_lt_of_le (hy.2.1 b hb).2 hy.2.2

section
variable {a b : RV} {p q : Rat} {K K1 K2 : Nat} {w : World}
def OwnR (r : RV) (w : World) : Prop := Own w 0 r.a.A r.a.n r.a.c r.a.l ∧ Own w 0 r.b.A r.b.n r.b.c r.b.l
theorem OwnR.blk {r : RV} {w : World} (h : OwnR r w) : ∀ b ∈ mutL r, ∃ cs ty own, w.heap[b]? = some (.cells cs ty own) := by
  intro b hb
  rcases List.mem_append.1 hb with hb | hb
  · exact (h.1.blk b hb).2
  · exact (h.2.blk b hb).2
theorem OwnR.left {r : RV} {w wa : World} {L : List Nat} (h : OwnR r wa) (e1 : wa.heap.size = w.heap.size) (e2 : ∀ b, b ∉ L → wa.heap[b]? = w.heap[b]?) (hd : ∀ b ∈ mutL r, b ∉ L) : OwnR r w :=
  ⟨h.1.left e1 e2 fun b hb => hd b (List.mem_append_left _ hb), h.2.left e1 e2 fun b hb => hd b (List.mem_append_right _ hb)⟩
theorem IsQN.own {r : RV} (h : IsQN r q K w) : OwnR r w := ⟨h.1.2.2.2, h.2.2.2.2⟩
theorem IsQE.own {r : RV} {x y : Int} (h : IsQE r x y K w) : OwnR r w := by
  unfold IsQE at h
  split at h
  · subst h; exact ⟨Own.nil_, Own.nil_⟩
  · exact h.own
theorem IsQuo.own {r : RV} (h : IsQuo r p q K w) : OwnR r w := by
  unfold IsQuo at h
  split at h
  · subst h; exact ⟨Own.nil_, Own.nil_⟩
  · exact h.own
theorem qclone_f {x y : Int} {B : Nat} (ha : IsI a.a x 40 w) (hb : IsI a.b y 40 w) (hN : B ≤ w.heap.size) :
    Calls Try.prog 17 #[a.val] w (CallPost w (fun o : ((Option Addr × Nat) × (Option Addr × Nat)) × Nat => (cpV a o.1).val) fun o u => OwnR (cpV a o.1) u ∧ (∀ b ∈ mutL (cpV a o.1), B ≤ b ∧ b < o.2) ∧ o.2 ≤ u.heap.size ∧ B ≤ o.2) :=
  (qclone_m ha.inn hb.inn ⟨Nat.le_trans ha.le (by decide), Nat.le_trans hb.le (by decide)⟩).mono fun _ _ h => CallPost.freshN (h.cast (G' := fun o u => OwnR (cpV a o) u) fun o u k => ⟨k.1.base (Nat.zero_le _), k.2.base (Nat.zero_le _)⟩) (fun o => mutL (cpV a o)) (fun o u k => k.blk) hN
theorem OwnR.i {o : (Option Addr × Nat) × (Option Addr × Nat)} {x y : Int} {w0 : World} (h : OwnR (cpV a o) w) (ha : IsI a.a x K w0) (hb : IsI a.b y K w0) : IsI (cpV a o).a x K w ∧ IsI (cpV a o).b y K w :=
  ⟨⟨h.1.toIn, ha.zi, ha.le⟩, ⟨h.2.toIn, hb.zi, hb.le⟩⟩
theorem sameQB_cp (o : (Option Addr × Nat) × (Option Addr × Nat)) : sameQB (cpV a o) a = true := by
  unfold sameQB sameB cpV cp; simp

theorem risn_v {v : SV} {B : Bool} {x : Int} (hB : isn v.s v.l = B) (hv : IsI v x K w) : Calls Try.prog 89 #[v.val] w (CallPost w (fun _ : Unit => .bool B) fun _ _ => True) := by
  subst hB; exact (risn_c w hv.inn).mono fun _ _ h => h.post
theorem rsign_v2 {v : SV} {x s : Int} (hs : sgn x = s) (ha : IsI v x K w) (hK : K ≤ 68719476736) : Calls Try.prog 90 #[v.val] w (CallPost w (fun _ : Unit => .int .i64 s) fun _ _ => True) := by
  subst hs; exact rsign_m ha hK
theorem rcmpU_v {u v : DV} {x y : Nat} {s : Int} (hs : cmpN x y = s) (ha : IsU u x K1 w) (hb : IsU v y K2 w) : Calls Try.prog 96 #[u.val, v.val] w (CallPost w (fun _ : Unit => .int .i64 s) fun _ _ => True) := by
  subst hs; exact rcmpU_m ha hb
theorem rone_m (w : World) : Calls Try.prog 98 #[.int .u64 1] w (CallPost w DV.val fun v u => IsUN v 1 1 u) :=
  (refFromUint64_c 1 (by decide) w).mono fun _ _ h => h.post (by decide)
theorem isnQ_gcd (r : RV) (x y : Int) : isnQ r x y = ((isn r.a.s r.a.l && isn r.b.s r.b.l) && (decide (0 < y) && decide (Nat.gcd x.natAbs y.natAbs = 1))) := by
  unfold isnQ
  by_cases h0 : y = 0
  · subst h0; simp
  · rw [decide_eq_true h0, Bool.true_and]
    have hd' : ((Rat.divInt x y).den : Int) = (y.natAbs / Nat.gcd x.natAbs y.natAbs : Nat) := by rw [← den_parts h0]; simp [zi]
    have hg := gcd_nz (x := x) h0
    by_cases hy : 0 < y
    · rw [decide_eq_true hy, Bool.true_and]
      by_cases h1 : Nat.gcd x.natAbs y.natAbs = 1
      · have e1 : y = (Rat.divInt x y).den := by rw [hd', h1, Nat.div_one]; omega
        have e2 : x = (Rat.divInt x y).num := by
          rw [Rat.num_divInt, show (y.gcd x : Nat) = Nat.gcd x.natAbs y.natAbs from Nat.gcd_comm _ _, h1, Int.sign_eq_one_of_pos hy]; simp
        rw [decide_eq_true h1, decide_eq_true e1, decide_eq_true e2]; simp
      · have e1 : ¬ y = (Rat.divInt x y).den := fun e => by
          rw [hd'] at e
          have := Nat.div_lt_self (n := y.natAbs) (k := Nat.gcd x.natAbs y.natAbs) (by omega) (by omega)
          omega
        rw [decide_eq_false h1, decide_eq_false e1]; simp
    · have e1 : ¬ y = (Rat.divInt x y).den := by omega
      rw [decide_eq_false hy, decide_eq_false e1]; simp
set_option maxRecDepth 100000 in
set_option maxHeartbeats 1000000 in
theorem rqisn_m {x y : Int} (hx : IsI a.a x K w) (hy : IsI a.b y K w) (hK : K ≤ 1073741824) :
    Calls Try.prog 24 #[a.val] w (CallPost w (fun _ : Unit => .bool (isnQ a x y)) fun _ _ => True) := by
  rw [isnQ_gcd]
  cases h1 : isn a.a.s a.a.l
  case false =>
    refine Good.enter Try.func24 rfl ?_
    refine Good.run (by kernel_rfl) (stop := 1000) 1000 _ ?_
    refine Good.callv (fun w1 hw h => risn_v h1 (hx.below hw)) (by kernel_rfl) (fun u => ?_)
    refine Good.run (by kernel_rfl) (stop := 1000) 1000 _ ?_
    refine Good.cond true (by kernel_rfl) ?_
    refine Good.run (by kernel_rfl) (stop := 1000) 1000 _ ?_
    refine Good.ret (v := .bool false) (by kernel_rfl) (fun w1 hw h => ⟨(), rfl, hw, fun _ _ _ => trivial⟩)
  cases h2 : isn a.b.s a.b.l
  case false =>
    refine Good.enter Try.func24 rfl ?_
    refine Good.run (by kernel_rfl) (stop := 1000) 1000 _ ?_
    refine Good.callv (fun w1 hw h => risn_v h1 (hx.below hw)) (by kernel_rfl) (fun u => ?_)
    refine Good.run (by kernel_rfl) (stop := 1000) 1000 _ ?_
    refine Good.callv (fun w1 hw h => risn_v h2 (hy.below hw)) (by kernel_rfl) (fun u => ?_)
    refine Good.run (by kernel_rfl) (stop := 1000) 1000 _ ?_
    refine Good.cond true (by kernel_rfl) ?_
    refine Good.run (by kernel_rfl) (stop := 1000) 1000 _ ?_
    refine Good.ret (v := .bool false) (by kernel_rfl) (fun w1 hw h => ⟨(), rfl, hw, fun _ _ _ => trivial⟩)
  by_cases h3 : 0 < y
  ·
    refine Good.enter Try.func24 rfl ?_
    refine Good.run (by kernel_rfl) (stop := 1000) 1000 _ ?_
    refine Good.callv (fun w1 hw h => risn_v h1 (hx.below hw)) (by kernel_rfl) (fun u => ?_)
    refine Good.run (by kernel_rfl) (stop := 1000) 1000 _ ?_
    refine Good.callv (fun w1 hw h => risn_v h2 (hy.below hw)) (by kernel_rfl) (fun u => ?_)
    refine Good.run (by kernel_rfl) (stop := 1000) 1000 _ ?_
    refine Good.callv (fun w1 hw h => rsign_v2 (s := 1) (by unfold sgn; rw [if_neg (by omega), if_neg (by omega)]) (hy.below hw) (by omega)) (by kernel_rfl) (fun u => ?_)
    refine Good.run (by kernel_rfl) (stop := 1000) 1000 _ ?_
    refine Good.cond false (by kernel_rfl) ?_
    refine Good.run (by kernel_rfl) (stop := 1000) 1000 _ ?_
    refine Good.callv (fun w1 hw h => rgcd_m (hx.d.below hw) (hy.d.below hw) hK) (by kernel_rfl) (fun g => ?_)
    refine Good.run (by kernel_rfl) (stop := 1000) 1000 _ ?_
    refine Good.callv (fun w1 hw h => rone_m w1) (by kernel_rfl) (fun o => ?_)
    refine Good.run (by kernel_rfl) (stop := 1000) 1000 _ ?_
    by_cases h4 : Nat.gcd x.natAbs y.natAbs = 1
    ·
      refine Good.callv (fun w1 hw h => rcmpU_v (s := 0) (cmpN_eq h4) h.1.2.1 h.2.1) (by kernel_rfl) (fun u => ?_)
      refine Good.run (by kernel_rfl) (stop := 1000) 1000 _ ?_
      refine Good.ret (v := .bool true) (by kernel_rfl) (fun w1 hw h => ⟨(), by rw [decide_eq_true h3, decide_eq_true h4]; rfl, hw, fun _ _ _ => trivial⟩)
    ·
      refine Good.callv (fun w1 hw h => rcmpU_v (s := 1) (cmpN_gt (by have := gcd_nz (x := x) (y := y) (by omega); omega)) h.1.2.1 h.2.1) (by kernel_rfl) (fun u => ?_)
      refine Good.run (by kernel_rfl) (stop := 1000) 1000 _ ?_
      refine Good.ret (v := .bool false) (by kernel_rfl) (fun w1 hw h => ⟨(), by rw [decide_eq_true h3, decide_eq_false h4]; rfl, hw, fun _ _ _ => trivial⟩)
  · obtain ⟨s, hs, h4⟩ : ∃ s : Int, sgn y = s ∧ (s = 0 ∨ s = -1) := ⟨sgn y, rfl, by unfold sgn; split <;> (try split) <;> omega⟩
    rcases h4 with rfl | rfl
    ·
      refine Good.enter Try.func24 rfl ?_
      refine Good.run (by kernel_rfl) (stop := 1000) 1000 _ ?_
      refine Good.callv (fun w1 hw h => risn_v h1 (hx.below hw)) (by kernel_rfl) (fun u => ?_)
      refine Good.run (by kernel_rfl) (stop := 1000) 1000 _ ?_
      refine Good.callv (fun w1 hw h => risn_v h2 (hy.below hw)) (by kernel_rfl) (fun u => ?_)
      refine Good.run (by kernel_rfl) (stop := 1000) 1000 _ ?_
      refine Good.callv (fun w1 hw h => rsign_v2 hs (hy.below hw) (by omega)) (by kernel_rfl) (fun u => ?_)
      refine Good.run (by kernel_rfl) (stop := 1000) 1000 _ ?_
      refine Good.cond true (by kernel_rfl) ?_
      refine Good.run (by kernel_rfl) (stop := 1000) 1000 _ ?_
      refine Good.ret (v := .bool false) (by kernel_rfl) (fun w1 hw h => ⟨(), by rw [decide_eq_false h3]; rfl, hw, fun _ _ _ => trivial⟩)
    ·
      refine Good.enter Try.func24 rfl ?_
      refine Good.run (by kernel_rfl) (stop := 1000) 1000 _ ?_
      refine Good.callv (fun w1 hw h => risn_v h1 (hx.below hw)) (by kernel_rfl) (fun u => ?_)
      refine Good.run (by kernel_rfl) (stop := 1000) 1000 _ ?_
      refine Good.callv (fun w1 hw h => risn_v h2 (hy.below hw)) (by kernel_rfl) (fun u => ?_)
      refine Good.run (by kernel_rfl) (stop := 1000) 1000 _ ?_
      refine Good.callv (fun w1 hw h => rsign_v2 hs (hy.below hw) (by omega)) (by kernel_rfl) (fun u => ?_)
      refine Good.run (by kernel_rfl) (stop := 1000) 1000 _ ?_
      refine Good.cond true (by kernel_rfl) ?_
      refine Good.run (by kernel_rfl) (stop := 1000) 1000 _ ?_
      refine Good.ret (v := .bool false) (by kernel_rfl) (fun w1 hw h => ⟨(), by rw [decide_eq_false h3]; rfl, hw, fun _ _ _ => trivial⟩)
theorem freshE {f : FuncId} {args : Array Value} {val : RV → Value} {G : RV → World → Prop} {B : Nat} (h : Calls Try.prog f args w (CallPost w val G)) (hG : ∀ r u, G r u → OwnR r u) (hN : B ≤ w.heap.size) :
    Calls Try.prog f args w (CallPost w (fun o : RV × Nat => val o.1) fun o u => G o.1 u ∧ (∀ b ∈ mutL o.1, B ≤ b ∧ b < o.2) ∧ o.2 ≤ u.heap.size ∧ B ≤ o.2) :=
  h.mono fun _ _ k => CallPost.freshN k mutL (fun r u k => (hG r u k).blk) hN
theorem rqisn_v {x y : Int} {B : Bool} (hB : isnQ a x y = B) (hx : IsI a.a x K w) (hy : IsI a.b y K w) (hK : K ≤ 1073741824) :
    Calls Try.prog 24 #[a.val] w (CallPost w (fun _ : Unit => .bool B) fun _ _ => True) := by subst hB; exact rqisn_m hx hy hK

set_option maxRecDepth 100000 in
set_option maxHeartbeats 4000000 in
theorem lawNew {x y : Int} (hx : IsI a.a x K w) (hy : IsI a.b y K w) :
    Calls Try.prog 3 #[a.val] w (CallPost w (fun _ : Unit => .bool true) fun _ _ => True) := by
  cases hs : smallB a
  ·
    refine Good.enter Try.func3 rfl ?_
    refine Good.run (by kernel_rfl) (stop := 1000) 1000 _ ?_
    refine Good.callv (fun w1 hw h => small_v hs) (by kernel_rfl) (fun u => ?_)
    refine Good.run (by kernel_rfl) (stop := 1000) 1000 _ ?_
    refine Good.cond true (by kernel_rfl) ?_
    refine Good.run (by kernel_rfl) (stop := 1000) 1000 _ ?_
    refine Good.callv (fun w1 hw h => qexample_m w1) (by kernel_rfl) (fun u => ?_)
    refine Good.run (by kernel_rfl) (stop := 1000) 1000 _ ?_
    refine Good.ret (v := .bool true) (by kernel_rfl) (fun w1 hw h => ⟨(), rfl, hw, fun _ _ _ => trivial⟩)
  · have h40 : IsI a.a x 40 w ∧ IsI a.b y 40 w := by
      simp only [smallB, Bool.and_eq_true, decide_eq_true_eq] at hs
      exact ⟨⟨hx.inn, hx.zi, hs.1⟩, ⟨hy.inn, hy.zi, hs.2⟩⟩
    have ha : IsQ a (Rat.divInt x y) 40 w := ⟨x, y, h40.1, h40.2, rfl⟩
    obtain ⟨B, hB⟩ : ∃ B, isnQ a x y = B := ⟨_, rfl⟩
    refine Good.enter Try.func3 rfl ?_
    refine Good.run (by kernel_rfl) (stop := 1000) 1000 _ ?_
    refine Good.callv (fun w1 hw h => small_v hs) (by kernel_rfl) (fun u => ?_)
    refine Good.run (by kernel_rfl) (stop := 1000) 1000 _ ?_
    refine Good.cond false (by kernel_rfl) ?_
    refine Good.run (by kernel_rfl) (stop := 1000) 1000 _ ?_
    refine Good.callv (fun w1 hw h => qclone_f (h40.1.below hw) (h40.2.below hw) hw.size) (by kernel_rfl) (fun o => ?_)
    refine Good.run (by kernel_rfl) (stop := 1000) 1000 _ ?_
    refine Good.callv (fun w1 hw h => freshE (qnew_m (h.2.1.i h40.1 h40.2).1 (h.2.1.i h40.1 h40.2).2 (by decide)) (fun _ _ k => k.own) h.2.2.2.1) (by kernel_rfl) (fun r => ?_)
    refine Good.run (by kernel_rfl) (stop := 1000) 1000 _ ?_
    refine Good.callv (fun w1 hw h => rqnew_m (h40.1.below hw) (h40.2.below hw) (by decide)) (by kernel_rfl) (fun s => ?_)
    refine Good.run (by kernel_rfl) (stop := 1000) 1000 _ ?_
    refine Good.callv (fun w1 hw h => freshE (qnormalize_m (a := cpV a o.1) (q := Rat.divInt x y) ⟨x, y, (h.1.1.2.1.i h40.1 h40.2).1, (h.1.1.2.1.i h40.1 h40.2).2, rfl⟩ (by decide)) (fun _ _ k => k.own) h.1.2.2.2.1) (by kernel_rfl) (fun n => ?_)
    refine Good.run (by kernel_rfl) (stop := 1000) 1000 _ ?_
    refine Good.callv (fun w1 hw h => rsame_e (by decide) h.1.1.2.1 h.1.2) (by kernel_rfl) (fun u => ?_)
    refine Good.run (by kernel_rfl) (stop := 8) 1000 _ ?_
    refine Good.slot 40 (.bool (divEI y != divEI y)) (.bool false) (by kernel_rfl) (by simp) ?_
    refine Good.run (by kernel_rfl) (stop := 1000) 1000 _ ?_
    refine Good.callv (fun w1 hw h => rqnormalize_m (ha.below hw) (by decide)) (by kernel_rfl) (fun v => ?_)
    refine Good.run (by kernel_rfl) (stop := 1000) 1000 _ ?_
    refine Good.callv (fun w1 hw h => rsame_nn (B := true) h.1.1.2.1 h.2 (by simp)) (by kernel_rfl) (fun u => ?_)
    refine Good.run (by kernel_rfl) (stop := 1000) 1000 _ ?_
    refine Good.callv (fun w1 hw h => qisn_v (a := cpV a o.1) (B := B) hB (h.1.1.1.1.1.1.2.1.i h40.1 h40.2).1 (h.1.1.1.1.1.1.2.1.i h40.1 h40.2).2 (by decide)) (by kernel_rfl) (fun u => ?_)
    refine Good.run (by kernel_rfl) (stop := 1000) 1000 _ ?_
    refine Good.callv (fun w1 hw h => rqisn_v hB (h40.1.below hw) (h40.2.below hw) (by decide)) (by kernel_rfl) (fun u => ?_)
    refine Good.run (by kernel_rfl) (stop := 22) 1000 _ ?_
    refine Good.slot 54 (.bool (B != B)) (.bool false) (by kernel_rfl) (by simp) ?_
    refine Good.run (by kernel_rfl) (stop := 1000) 1000 _ ?_
    refine Good.callv (fun w1 hw h => qbitLen_m (a := cpV a o.1) (q := Rat.divInt x y) ⟨x, y, (h.1.1.1.1.1.1.1.1.2.1.i h40.1 h40.2).1, (h.1.1.1.1.1.1.1.1.2.1.i h40.1 h40.2).2, rfl⟩ (by decide)) (by kernel_rfl) (fun u => ?_)
    refine Good.run (by kernel_rfl) (stop := 1000) 1000 _ ?_
    refine Good.callv (fun w1 hw h => rqbitLen_m (ha.below hw) (by decide)) (by kernel_rfl) (fun u => ?_)
    refine Good.run (by kernel_rfl) (stop := 29) 1000 _ ?_
    refine Good.slot 61 (.bool ((bitsQ (Rat.divInt x y) : Int) != (bitsQ (Rat.divInt x y) : Int))) (.bool false) (by kernel_rfl) (by simp) ?_
    refine Good.run (by kernel_rfl) (stop := 1000) 1000 _ ?_
    refine Good.cond false (by kernel_rfl) ?_
    refine Good.run (by kernel_rfl) (stop := 1000) 1000 _ ?_
    refine Good.mut (L := mutL r.1) (Φ' := fun _ u => OwnR (cpV a o.1) u ∧ OwnR n.1 u ∧ o.2 ≤ r.2 ∧ w.heap.size ≤ o.2 ∧ (∀ b ∈ mutL n.1, r.2 ≤ b) ∧ (∀ b ∈ mutL (cpV a o.1), b < o.2)) (fun w1 hw h => qoverwrite_c w1 h.1.1.1.1.1.1.1.1.1.2.1.own.1 h.1.1.1.1.1.1.1.1.1.2.1.own.2) (fun u h b hb => ⟨Nat.le_trans h.1.1.1.1.1.1.1.1.1.1.2.2.2.2 (h.1.1.1.1.1.1.1.1.1.2.2.1 b hb).1, h.1.1.1.1.1.1.1.1.1.2.1.own.blk b hb⟩) (fun _ wa u e1 e2 h hG => ⟨h.1.1.1.1.1.1.1.1.1.1.2.1.left e1 e2 fun b hb hb' => ?_, h.1.1.1.1.1.1.1.2.1.own.left e1 e2 fun b hb hb' => ?_, h.1.1.1.1.1.1.1.1.1.2.2.2.2, h.1.1.1.1.1.1.1.1.1.1.2.2.2.2, fun b hb => (h.1.1.1.1.1.1.1.2.2.1 b hb).1, fun b hb => (h.1.1.1.1.1.1.1.1.1.1.2.2.1 b hb).2⟩) (by kernel_rfl) (by kernel_rfl) (fun _ => ?_)
    · have h1 := (h.1.1.1.1.1.1.1.1.1.1.2.2.1 b hb).2
      have h2 := (h.1.1.1.1.1.1.1.1.1.2.2.1 b hb').1
      omega
    · have h1 := (h.1.1.1.1.1.1.1.2.2.1 b hb).1
      have h2 := (h.1.1.1.1.1.1.1.1.1.2.2.1 b hb').2
      omega
    refine Good.run (by kernel_rfl) (stop := 1000) 1000 _ ?_
    refine Good.mut (L := mutL n.1) (Φ' := fun _ u => OwnR (cpV a o.1) u) (fun w1 hw h => qoverwrite_c w1 h.2.1.1 h.2.1.2) (fun u h b hb => ⟨Nat.le_trans h.2.2.2.1 (Nat.le_trans h.2.2.1 (h.2.2.2.2.1 b hb)), h.2.1.blk b hb⟩) (fun _ wa u e1 e2 h hG => h.1.left e1 e2 fun b hb hb' => ?_) (by kernel_rfl) (by kernel_rfl) (fun _ => ?_)
    · have h1 := h.2.2.2.2.2 b hb
      have h2 := h.2.2.2.2.1 b hb'
      have h3 := h.2.2.1
      omega
    refine Good.run (by kernel_rfl) (stop := 1000) 1000 _ ?_
    refine Good.callv (fun w1 hw h => rsame_v (a := cpV a o.1) (sameQB_cp o.1) (h.i h40.1 h40.2).1 (h.i h40.1 h40.2).2 (h40.1.below hw) (h40.2.below hw)) (by kernel_rfl) (fun u => ?_)
    refine Good.run (by kernel_rfl) (stop := 1000) 1000 _ ?_
    refine Good.callv (fun w1 hw h => qexample_m w1) (by kernel_rfl) (fun u => ?_)
    refine Good.run (by kernel_rfl) (stop := 1000) 1000 _ ?_
    refine Good.ret (v := .bool true) (by kernel_rfl) (fun w1 hw h => ⟨(), rfl, hw, fun _ _ _ => trivial⟩)
end

end Go.Proofs.Ytjdcolaefhheaaa
