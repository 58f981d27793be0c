/-
  Transforms: the reference and the laws.
-/
import Derived.Test.YtfmcpplkmldhiaaGreatTL
import Derived.Test.YtfmcpplkmldhiaaGreatAr
namespace Go.Proofs.YtfmcpplkmldhiaaGreat
set_option linter.unusedVariables false
set_option linter.unusedSimpArgs false
open Go.RowKit

theorem cmpQ_ne {p q : Rat} {B : Bool} (h : decide (p = q) = B) : (cmpQ p q != 0) = !B := by
  rw [← h]
  unfold cmpQ
  by_cases h1 : p < q
  · rw [if_pos h1, decide_eq_false (fun k => by rw [k] at h1; exact absurd h1 (Rat.lt_irrefl))]; rfl
  · rw [if_neg h1]
    by_cases h2 : p = q
    · rw [if_pos h2, decide_eq_true h2]; rfl
    · rw [if_neg h2, decide_eq_false h2]; rfl
/-- The blocks of a slice that has room. -/
def bks (A : Option Addr) (c : Nat) : List Nat := match A with | some p => if c = 0 then [] else [p.block] | none => []
theorem Own.bksAt {w : World} {B : Nat} {A : Option Addr} {n c : Nat} {l : List Nat} (h : Own w B A n c l) : ∀ b ∈ bks A c, ∃ cs ty own, w.heap[b]? = some (.cells cs ty own) := by
  intro b hb
  unfold bks at hb
  split at hb
  · split at hb
    · cases hb
    · rename_i p h0
      obtain ⟨g, cur, t, hA, hB, hh, _⟩ := h.own (by omega)
      injection hA with hA
      subst hA
      simp only [List.mem_singleton] at hb
      subst hb
      exact ⟨_, _, _, hh⟩
  · cases hb
theorem Own.leftB {w wa : World} {B : Nat} {A : Option Addr} {n c : Nat} {l L : List Nat} (h : Own wa B A n c l) (e1 : wa.heap.size = w.heap.size) (e2 : ∀ b, b ∉ L → wa.heap[b]? = w.heap[b]?) (hd : ∀ b ∈ bks A c, b ∉ L) : Own w B A n c l := by
  have hkeep : ∀ p, A = some p → 0 < c → w.heap[p.block]? = wa.heap[p.block]? := fun p hp h0 => (e2 _ (hd _ (by unfold bks; rw [hp]; simp; omega))).symm
  refine ⟨⟨h.dig, h.len, h.le, h.cap, h.rd.1, fun h0 => ?_⟩, fun h0 => ?_⟩
  · obtain ⟨x, hA, hb, hc⟩ := h.rd.2 h0
    have hle := h.le
    refine ⟨x, hA, by rw [← e1]; exact hb, fun j u hu => ?_⟩
    have e : w.cell? (x.add j) = wa.cell? (x.add j) := World.cell?_of_block (by rw [block_of_add]; exact hkeep x hA (by omega))
    exact e.trans (hc j u hu)
  · obtain ⟨g, cur, t, hA, hB, hh, hs⟩ := h.own h0
    exact ⟨g, cur, t, hA, hB, (hkeep _ hA h0).trans hh, hs⟩
def blkR (r : RV) : List Nat := bks r.a.A r.a.c ++ bks r.b.A r.b.c
def blkT (t : TV) : List Nat := blkR t.a ++ (blkR t.b ++ (blkR t.c ++ (blkR t.d ++ (blkR t.e ++ blkR t.f))))
theorem CallPost.newer {X : Type} {w : World} {val : X → Value} {G : X → World → Prop} {e : Ending} {w' : World} (h : CallPost w val G e w') (L : X → List Nat)
    (hL : ∀ x w, G x w → ∀ b ∈ L x, ∃ cs ty own, w.heap[b]? = some (.cells cs ty own)) : CallPost w val (fun x u => G x u ∧ ∀ b ∈ L x, w.heap.size ≤ b) e w' := by
  obtain ⟨q, h1, h2, h3⟩ := h.fresh L hL
  exact ⟨q.1, h1, h2, fun w'' k1 k2 => ⟨(h3 w'' k1 k2).1, fun b hb => ((h3 w'' k1 k2).2.1 b hb).1⟩⟩
theorem MakePost.cast {X : Type} {P : Program} {w : World} {val : X → Value} {G G' : X → World → Prop} {s : Sem Next} (h : MakePost P w val G s) (hG : ∀ x u, G x u → G' x u) : MakePost P w val G' s := by
  obtain ⟨x, w', h1, h2, h3⟩ := h
  exact ⟨x, w', h1, h2, fun w'' k1 k2 => hG _ _ (h3 w'' k1 k2)⟩
section
variable {w wa : World} {t u : TV} {T U : Aff} {K K1 K2 : Nat} {r s : RV} {p q : Rat} {X Y : Int} {L : List Nat} {ty : TypeId}
theorem IsN.leftB {v : SV} {x : Int} (h : IsN v x K wa) (e1 : wa.heap.size = w.heap.size) (e2 : ∀ b, b ∉ L → wa.heap[b]? = w.heap[b]?) (hd : ∀ b ∈ bks v.A v.c, b ∉ L) : IsN v x K w :=
  have ho := h.2.2.2.leftB e1 e2 hd
  ⟨⟨ho.toIn, h.1.zi, h.1.le⟩, h.2.1, h.2.2.1, ho⟩
theorem IsQN.leftB (h : IsQN r q K wa) (e1 : wa.heap.size = w.heap.size) (e2 : ∀ b, b ∉ L → wa.heap[b]? = w.heap[b]?) (hd : ∀ b ∈ blkR r, b ∉ L) : IsQN r q K w :=
  ⟨h.1.leftB e1 e2 fun b hb => hd b (List.mem_append_left _ hb), h.2.leftB e1 e2 fun b hb => hd b (List.mem_append_right _ hb)⟩
theorem IsAN.leftB (h : IsAN t T K wa) (e1 : wa.heap.size = w.heap.size) (e2 : ∀ b, b ∉ L → wa.heap[b]? = w.heap[b]?) (hd : ∀ b ∈ blkT t, b ∉ L) : IsAN t T K w :=
  ⟨h.a.leftB e1 e2 fun b hb => hd b (by simp [blkT, hb]), h.b.leftB e1 e2 fun b hb => hd b (by simp [blkT, hb]), h.c.leftB e1 e2 fun b hb => hd b (by simp [blkT, hb]), h.d.leftB e1 e2 fun b hb => hd b (by simp [blkT, hb]), h.e.leftB e1 e2 fun b hb => hd b (by simp [blkT, hb]), h.f.leftB e1 e2 fun b hb => hd b (by simp [blkT, hb])⟩
theorem IsQN.blk (h : IsQN r q K w) : ∀ b ∈ blkR r, ∃ cs ty own, w.heap[b]? = some (.cells cs ty own) := fun b hb => by
  rcases List.mem_append.1 hb with hb | hb
  · exact h.1.2.2.2.bksAt b hb
  · exact h.2.2.2.2.bksAt b hb
theorem IsAN.blk (h : IsAN t T K w) : ∀ b ∈ blkT t, ∃ cs ty own, w.heap[b]? = some (.cells cs ty own) := fun b hb => by
  simp only [blkT, List.mem_append] at hb
  rcases hb with hb | hb | hb | hb | hb | hb
  · exact h.a.blk b hb
  · exact h.b.blk b hb
  · exact h.c.blk b hb
  · exact h.d.blk b hb
  · exact h.e.blk b hb
  · exact h.f.blk b hb
theorem IsAN.blkLt (h : IsAN t T K w) : ∀ b ∈ blkT t, b < w.heap.size := fun b hb => by
  obtain ⟨_, _, _, h2⟩ := h.blk b hb
  exact (Array.getElem?_eq_some_iff.1 h2).1
def Apart (A : Option Addr) (t : TV) : Prop := ∀ b ∈ bl A, ∀ b' ∈ blkT t, b' ≠ b
set_option maxRecDepth 100000 in
set_option maxHeartbeats 2000000 in
theorem equalA_m (ht : IsA t T K w) (hu : IsA u U K w) (hK : 2 ≤ K ∧ K ≤ 10000000) : Calls Tryz.prog 15 #[t.val, u.val] w (CallPost w (fun _ : Unit => .bool (eqA T U)) fun _ _ => True) := by
  refine Good.enter Tryz.func15 rfl ?_
  refine Good.run (by kernel_rfl) (stop := 1000) 1000 _ ?_
  refine Good.callv (fun w1 hw h => numbers_m (ht.below hw) hK) (by kernel_rfl) (fun n => ?_)
  refine Good.run (by kernel_rfl) (stop := 1000) 1000 _ ?_
  refine Good.callv (fun w1 hw h => numbers_m (hu.below hw) hK) (by kernel_rfl) (fun m => ?_)
  refine Good.run (by kernel_rfl) (stop := 1000) 1000 _ ?_
  refine Good.un (by kernel_rfl) ?_
  refine Good.run (by kernel_rfl) (stop := 1000) 1000 _ ?_
  refine Good.drop 8 (by kernel_rfl) (fun _ => ?_)
  refine Good.cond true (by kernel_rfl) ?_
  refine Good.run (by kernel_rfl) (stop := 1000) 1000 _ ?_
  refine Good.callv (fun w1 hw h => qcmp_m h.1.2.a.q h.2.a.q (by omega)) (by kernel_rfl) (fun v => ?_)
  refine Good.run (by kernel_rfl) (stop := 1000) 1000 _ ?_
  cases hea : decide (T.a = U.a)
  ·
    refine Good.condr (cmpQ T.a U.a != 0) true (by kernel_rfl) (by rw [cmpQ_ne hea]; rfl) ?_
    refine Good.run (by kernel_rfl) (stop := 1000) 1000 _ ?_
    refine Good.ret (v := .bool false) (by kernel_rfl) (fun w1 hw h => ⟨(), by unfold eqA; rw [hea]; simp, hw, fun _ _ _ => trivial⟩)
  refine Good.condr (cmpQ T.a U.a != 0) false (by kernel_rfl) (by rw [cmpQ_ne hea]; rfl) ?_
  refine Good.run (by kernel_rfl) (stop := 1000) 1000 _ ?_
  refine Good.drop 8 (by kernel_rfl) (fun _ => ?_)
  refine Good.cond true (by kernel_rfl) ?_
  refine Good.run (by kernel_rfl) (stop := 1000) 1000 _ ?_
  refine Good.callv (fun w1 hw h => qcmp_m h.1.1.2.b.q h.1.2.b.q (by omega)) (by kernel_rfl) (fun v => ?_)
  refine Good.run (by kernel_rfl) (stop := 1000) 1000 _ ?_
  cases heb : decide (T.b = U.b)
  ·
    refine Good.condr (cmpQ T.b U.b != 0) true (by kernel_rfl) (by rw [cmpQ_ne heb]; rfl) ?_
    refine Good.run (by kernel_rfl) (stop := 1000) 1000 _ ?_
    refine Good.ret (v := .bool false) (by kernel_rfl) (fun w1 hw h => ⟨(), by unfold eqA; rw [heb]; simp, hw, fun _ _ _ => trivial⟩)
  refine Good.condr (cmpQ T.b U.b != 0) false (by kernel_rfl) (by rw [cmpQ_ne heb]; rfl) ?_
  refine Good.run (by kernel_rfl) (stop := 1000) 1000 _ ?_
  refine Good.drop 8 (by kernel_rfl) (fun _ => ?_)
  refine Good.cond true (by kernel_rfl) ?_
  refine Good.run (by kernel_rfl) (stop := 1000) 1000 _ ?_
  refine Good.callv (fun w1 hw h => qcmp_m h.1.1.1.2.c.q h.1.1.2.c.q (by omega)) (by kernel_rfl) (fun v => ?_)
  refine Good.run (by kernel_rfl) (stop := 1000) 1000 _ ?_
  cases hec : decide (T.c = U.c)
  ·
    refine Good.condr (cmpQ T.c U.c != 0) true (by kernel_rfl) (by rw [cmpQ_ne hec]; rfl) ?_
    refine Good.run (by kernel_rfl) (stop := 1000) 1000 _ ?_
    refine Good.ret (v := .bool false) (by kernel_rfl) (fun w1 hw h => ⟨(), by unfold eqA; rw [hec]; simp, hw, fun _ _ _ => trivial⟩)
  refine Good.condr (cmpQ T.c U.c != 0) false (by kernel_rfl) (by rw [cmpQ_ne hec]; rfl) ?_
  refine Good.run (by kernel_rfl) (stop := 1000) 1000 _ ?_
  refine Good.drop 8 (by kernel_rfl) (fun _ => ?_)
  refine Good.cond true (by kernel_rfl) ?_
  refine Good.run (by kernel_rfl) (stop := 1000) 1000 _ ?_
  refine Good.callv (fun w1 hw h => qcmp_m h.1.1.1.1.2.d.q h.1.1.1.2.d.q (by omega)) (by kernel_rfl) (fun v => ?_)
  refine Good.run (by kernel_rfl) (stop := 1000) 1000 _ ?_
  cases hed : decide (T.d = U.d)
  ·
    refine Good.condr (cmpQ T.d U.d != 0) true (by kernel_rfl) (by rw [cmpQ_ne hed]; rfl) ?_
    refine Good.run (by kernel_rfl) (stop := 1000) 1000 _ ?_
    refine Good.ret (v := .bool false) (by kernel_rfl) (fun w1 hw h => ⟨(), by unfold eqA; rw [hed]; simp, hw, fun _ _ _ => trivial⟩)
  refine Good.condr (cmpQ T.d U.d != 0) false (by kernel_rfl) (by rw [cmpQ_ne hed]; rfl) ?_
  refine Good.run (by kernel_rfl) (stop := 1000) 1000 _ ?_
  refine Good.drop 8 (by kernel_rfl) (fun _ => ?_)
  refine Good.cond true (by kernel_rfl) ?_
  refine Good.run (by kernel_rfl) (stop := 1000) 1000 _ ?_
  refine Good.callv (fun w1 hw h => qcmp_m h.1.1.1.1.1.2.e.q h.1.1.1.1.2.e.q (by omega)) (by kernel_rfl) (fun v => ?_)
  refine Good.run (by kernel_rfl) (stop := 1000) 1000 _ ?_
  cases hee : decide (T.e = U.e)
  ·
    refine Good.condr (cmpQ T.e U.e != 0) true (by kernel_rfl) (by rw [cmpQ_ne hee]; rfl) ?_
    refine Good.run (by kernel_rfl) (stop := 1000) 1000 _ ?_
    refine Good.ret (v := .bool false) (by kernel_rfl) (fun w1 hw h => ⟨(), by unfold eqA; rw [hee]; simp, hw, fun _ _ _ => trivial⟩)
  refine Good.condr (cmpQ T.e U.e != 0) false (by kernel_rfl) (by rw [cmpQ_ne hee]; rfl) ?_
  refine Good.run (by kernel_rfl) (stop := 1000) 1000 _ ?_
  refine Good.drop 8 (by kernel_rfl) (fun _ => ?_)
  refine Good.cond true (by kernel_rfl) ?_
  refine Good.run (by kernel_rfl) (stop := 1000) 1000 _ ?_
  refine Good.callv (fun w1 hw h => qcmp_m h.1.1.1.1.1.1.2.f.q h.1.1.1.1.1.2.f.q (by omega)) (by kernel_rfl) (fun v => ?_)
  refine Good.run (by kernel_rfl) (stop := 1000) 1000 _ ?_
  cases hef : decide (T.f = U.f)
  ·
    refine Good.condr (cmpQ T.f U.f != 0) true (by kernel_rfl) (by rw [cmpQ_ne hef]; rfl) ?_
    refine Good.run (by kernel_rfl) (stop := 1000) 1000 _ ?_
    refine Good.ret (v := .bool false) (by kernel_rfl) (fun w1 hw h => ⟨(), by unfold eqA; rw [hef]; simp, hw, fun _ _ _ => trivial⟩)
  refine Good.condr (cmpQ T.f U.f != 0) false (by kernel_rfl) (by rw [cmpQ_ne hef]; rfl) ?_
  refine Good.run (by kernel_rfl) (stop := 1000) 1000 _ ?_
  refine Good.cond false (by kernel_rfl) ?_
  refine Good.run (by kernel_rfl) (stop := 1000) 1000 _ ?_
  refine Good.ret (v := .bool true) (by kernel_rfl) (fun w1 hw h => ⟨(), by unfold eqA; rw [hea, heb, hec, hed, hee, hef]; rfl, hw, fun _ _ _ => trivial⟩)
set_option maxRecDepth 100000 in
set_option maxHeartbeats 1000000 in
theorem rnormA_m (ht : IsA t T K w) (hK : 2 ≤ K ∧ K ≤ 10000000) : Calls Tryz.prog 14 #[t.val] w (CallPost w TV.val fun v w => IsAN v T K w) := by
  refine Good.enter Tryz.func14 rfl ?_
  refine Good.run (by kernel_rfl) (stop := 1000) 1000 _ ?_
  refine Good.callv (fun w1 hw h => rqnormalize_m (ht.a.below hw) (by omega)) (by kernel_rfl) (fun a => ?_)
  refine Good.run (by kernel_rfl) (stop := 1000) 1000 _ ?_
  refine Good.callv (fun w1 hw h => rqnormalize_m (ht.b.below hw) (by omega)) (by kernel_rfl) (fun b => ?_)
  refine Good.run (by kernel_rfl) (stop := 1000) 1000 _ ?_
  refine Good.callv (fun w1 hw h => rqnormalize_m (ht.c.below hw) (by omega)) (by kernel_rfl) (fun c => ?_)
  refine Good.run (by kernel_rfl) (stop := 1000) 1000 _ ?_
  refine Good.callv (fun w1 hw h => rqnormalize_m (ht.d.below hw) (by omega)) (by kernel_rfl) (fun d => ?_)
  refine Good.run (by kernel_rfl) (stop := 1000) 1000 _ ?_
  refine Good.callv (fun w1 hw h => rqnormalize_m (ht.e.below hw) (by omega)) (by kernel_rfl) (fun e => ?_)
  refine Good.run (by kernel_rfl) (stop := 1000) 1000 _ ?_
  refine Good.callv (fun w1 hw h => rqnormalize_m (ht.f.below hw) (by omega)) (by kernel_rfl) (fun f => ?_)
  refine Good.run (by kernel_rfl) (stop := 1000) 1000 _ ?_
  refine Good.ret (v := TV.val ⟨a, b, c, d, e, f⟩) (by kernel_rfl) (fun w1 hw h => ⟨⟨a, b, c, d, e, f⟩, rfl, hw, fun w'' k1 k2 => ⟨(h w'' k1 k2).1.1.1.1.1.2, (h w'' k1 k2).1.1.1.1.2, (h w'' k1 k2).1.1.1.2, (h w'' k1 k2).1.1.2, (h w'' k1 k2).1.2, (h w'' k1 k2).2⟩⟩)
set_option maxRecDepth 100000 in
set_option maxHeartbeats 1000000 in
theorem requalA_m (ht : IsA t T K w) (hu : IsA u U K w) (hK : 2 ≤ K ∧ K ≤ 10000000) : Calls Tryz.prog 16 #[t.val, u.val] w (CallPost w (fun _ : Unit => .bool (eqA T U)) fun _ _ => True) := by
  refine Good.enter Tryz.func16 rfl ?_
  refine Good.run (by kernel_rfl) (stop := 1000) 1000 _ ?_
  refine Good.callv (fun w1 hw h => rnormA_m (ht.below hw) hK) (by kernel_rfl) (fun n => ?_)
  refine Good.run (by kernel_rfl) (stop := 1000) 1000 _ ?_
  refine Good.callv (fun w1 hw h => rnormA_m (hu.below hw) hK) (by kernel_rfl) (fun m => ?_)
  refine Good.run (by kernel_rfl) (stop := 1000) 1000 _ ?_
  refine Good.callv (fun w1 hw h => fieldsN_m rfl h.1.2 h.2) (by kernel_rfl) (fun v => ?_)
  refine Good.run (by kernel_rfl) (stop := 1000) 1000 _ ?_
  refine Good.ret (v := .bool (eqA T U)) (by kernel_rfl) (fun w1 hw h => ⟨(), rfl, hw, fun _ _ _ => trivial⟩)
set_option maxRecDepth 100000 in
set_option maxHeartbeats 1000000 in
theorem rdetA_m (ht : IsA t T K w) (hK : 2 ≤ K ∧ K ≤ 10000000) : Calls Tryz.prog 19 #[t.val] w (CallPost w RV.val fun v w => IsQN v T.det (4 * K + 1) w) := by
  refine Good.enter Tryz.func19 rfl ?_
  refine Good.run (by kernel_rfl) (stop := 1000) 1000 _ ?_
  refine Good.callv (fun w1 hw h => rqmul_m (ht.a.below hw) (ht.d.below hw) (by omega)) (by kernel_rfl) (fun m => ?_)
  refine Good.run (by kernel_rfl) (stop := 1000) 1000 _ ?_
  refine Good.callv (fun w1 hw h => rqmul_m (ht.b.below hw) (ht.c.below hw) (by omega)) (by kernel_rfl) (fun n => ?_)
  refine Good.run (by kernel_rfl) (stop := 1000) 1000 _ ?_
  refine Good.callv (fun w1 hw h => rqsub_m h.1.2.q h.2.q (by omega)) (by kernel_rfl) (fun v => ?_)
  refine Good.run (by kernel_rfl) (stop := 1000) 1000 _ ?_
  refine Good.ret (v := RV.val v) (by kernel_rfl) (fun w1 hw h => ⟨v, rfl, hw, fun w'' k1 k2 => (h w'' k1 k2).2.mono (by omega)⟩)
set_option maxRecDepth 100000 in
set_option maxHeartbeats 1000000 in
theorem rcompA_m (ht : IsA t T K w) (hu : IsA u U K w) (hK : 2 ≤ K ∧ K ≤ 10000000) : Calls Tryz.prog 49 #[t.val, u.val] w (CallPost w TV.val fun v w => IsAN v (T.comp U) (5 * K + 2) w) := by
  refine Good.enter Tryz.func49 rfl ?_
  refine Good.run (by kernel_rfl) (stop := 1000) 1000 _ ?_
  refine Good.callv (fun w1 hw h => rdot_A (hu.a.below hw) (ht.a.below hw) (hu.c.below hw) (ht.b.below hw) hK) (by kernel_rfl) (fun a => ?_)
  refine Good.run (by kernel_rfl) (stop := 1000) 1000 _ ?_
  refine Good.callv (fun w1 hw h => rdot_A (hu.b.below hw) (ht.a.below hw) (hu.d.below hw) (ht.b.below hw) hK) (by kernel_rfl) (fun b => ?_)
  refine Good.run (by kernel_rfl) (stop := 1000) 1000 _ ?_
  refine Good.callv (fun w1 hw h => rdot_A (hu.a.below hw) (ht.c.below hw) (hu.c.below hw) (ht.d.below hw) hK) (by kernel_rfl) (fun c => ?_)
  refine Good.run (by kernel_rfl) (stop := 1000) 1000 _ ?_
  refine Good.callv (fun w1 hw h => rdot_A (hu.b.below hw) (ht.c.below hw) (hu.d.below hw) (ht.d.below hw) hK) (by kernel_rfl) (fun d => ?_)
  refine Good.run (by kernel_rfl) (stop := 1000) 1000 _ ?_
  refine Good.callv (fun w1 hw h => rdot_A (hu.a.below hw) (ht.e.below hw) (hu.c.below hw) (ht.f.below hw) hK) (by kernel_rfl) (fun x => ?_)
  refine Good.run (by kernel_rfl) (stop := 1000) 1000 _ ?_
  refine Good.callv (fun w1 hw h => rqadd_m h.2.q (hu.e.below hw) (by omega)) (by kernel_rfl) (fun e => ?_)
  refine Good.run (by kernel_rfl) (stop := 1000) 1000 _ ?_
  refine Good.callv (fun w1 hw h => rdot_A (hu.b.below hw) (ht.e.below hw) (hu.d.below hw) (ht.f.below hw) hK) (by kernel_rfl) (fun y => ?_)
  refine Good.run (by kernel_rfl) (stop := 1000) 1000 _ ?_
  refine Good.callv (fun w1 hw h => rqadd_m h.2.q (hu.f.below hw) (by omega)) (by kernel_rfl) (fun f => ?_)
  refine Good.run (by kernel_rfl) (stop := 1000) 1000 _ ?_
  refine Good.ret (v := TV.val ⟨a, b, c, d, e, f⟩) (by kernel_rfl) (fun w1 hw h => ⟨⟨a, b, c, d, e, f⟩, rfl, hw, fun w'' k1 k2 => ⟨(h w'' k1 k2).1.1.1.1.1.1.1.2.mono (by omega), (h w'' k1 k2).1.1.1.1.1.1.2.mono (by omega), (h w'' k1 k2).1.1.1.1.1.2.mono (by omega), (h w'' k1 k2).1.1.1.1.2.mono (by omega), (h w'' k1 k2).1.1.2.mono (by omega), (h w'' k1 k2).2.mono (by omega)⟩⟩)
def refOk : Aff → List Aff → Bool
  | _, [] => true
  | A, T :: l => T.ok && ((A.comp T).ok && refOk (A.comp T) l)
theorem refOk_eq : ∀ (l : List Aff) (A : Aff), (l.all Aff.ok && preOk A l) = refOk A l
  | [], A => rfl
  | T :: l, A => by
    simp only [List.all_cons, preOk, refOk]
    rw [← refOk_eq l (A.comp T)]
    cases T.ok <;> cases (A.comp T).ok <;> simp
set_option maxRecDepth 100000 in
set_option maxHeartbeats 2000000 in
theorem rcompose_m {A : Option Addr} {n c : Nat} {L : List TV} {Ts : List Aff} (hl : RowT w A n L Ts K) (hn : n ≤ 1000) (hK : 8 ≤ K ∧ K ≤ 1000000) :
    Calls Tryz.prog 21 #[.slice A n c] w (CallPost w (fun r : TV => .tuple #[r.val, .int .i64 (compE Ts)]) fun r u => OutA r (compE Ts) (compF Ts) 8 u) := by
  have cE : compE Ts = if refOk affId Ts = true then 0 else 5 := by unfold compE; rw [refOk_eq]
  refine Good.enter Tryz.func21 rfl ?_
  refine Good.run (by kernel_rfl) (stop := 1000) 1000 _ ?_
  refine Good.callv (fun w1 hw h => ridentity_m) (by kernel_rfl) (fun i => ?_)
  refine Good.run (by kernel_rfl) (stop := 1000) 1000 _ ?_
  refine Good.loop (ι := {q : Nat × TV × Aff // q.1 ≤ n ∧ refOk affId Ts = refOk q.2.2 (Ts.drop q.1) ∧ compF Ts = (Ts.drop q.1).foldl Aff.comp q.2.2}) 31 (fun q => ⟨[(0, .v (.slice A n c)), (2, .p 2 0), (3, .v (.int .i64 0)), (4, .p 4 0), (5, .v (.int .i64 q.1.1))], [(2, TV0.cl.map .v), (4, q.1.2.1.cl.map .v)]⟩) (fun q u => IsAN q.1.2.1 q.1.2.2 8 u) (fun q => n - q.1.1) (⟨(0, i, affId), by show 0 ≤ n; omega, rfl, rfl⟩) (by kernel_rfl) (fun _ => by kernel_rfl) ⟨by kernel_rfl, by kernel_rfl, by kernel_rfl⟩ (fun u h => h.2.mono (by decide)) ?_
  rintro ⟨⟨k, t, T⟩, hk, hpre, hcomp⟩ gg
  simp only at hk hpre hcomp
  by_cases hlt : k < n
  ·
    refine Good.run (by kernel_rfl) (stop := 1000) 1000 _ ?_
    refine Good.condr (decide ((k : Int) < (n : Int))) true (by kernel_rfl) (by simp; omega) ?_
    refine Good.run (by kernel_rfl) (stop := 1000) 1000 _ ?_
    obtain ⟨x, hx⟩ : ∃ x, L[k]? = some x := ⟨_, List.getElem?_eq_getElem (by rw [hl.len]; exact hlt)⟩
    obtain ⟨S, hT⟩ : ∃ T, Ts[k]? = some T := ⟨_, List.getElem?_eq_getElem (by rw [hl.lenT]; exact hlt)⟩
    obtain ⟨ad, hA, hcells⟩ := hl.cells k x hx
    have hxT := hl.elems k x S hx hT
    have hdrop : Ts.drop k = S :: Ts.drop (k + 1) := by
      rw [← List.getElem_cons_drop (h := by rw [hl.lenT]; exact hlt)]
      congr 1
      have := List.getElem?_eq_getElem (l := Ts) (i := k) (by rw [hl.lenT]; exact hlt)
      rw [hT] at this
      injection this with this
      exact this.symm
    rw [hdrop] at hpre hcomp
    simp only [refOk] at hpre
    have bad : refOk affId Ts = false → compE Ts = 5 := fun h => by rw [cE, h]; rfl
    refine Good.ask (idxS 35 (.slice A n c) k) (.pointer (some (ad.add (k * 24)))) (by kernel_rfl) (fun w1 hw h => by rw [hA]; exact run_idxA (elem := 28) (by kernel_rfl) (by kernel_rfl) hlt) ?_
    refine Good.run (by kernel_rfl) (stop := 1000) 1000 _ ?_
    refine Good.ask (ldS 28 (ad.add (k * 24))) (x.val) (by kernel_rfl) (fun w1 hw h => run_ldA (vs := x.cl) (by kernel_rfl) (by kernel_rfl) (fun j v hv => keepc hw (hcells j v hv))) ?_
    refine Good.run (by kernel_rfl) (stop := 1000) 1000 _ ?_
    cases hS : S.ok
    ·
      refine Good.callv (fun w1 hw h => rvalidA_v hS (hxT.below hw) (by omega)) (by kernel_rfl) (fun u => ?_)
      refine Good.run (by kernel_rfl) (stop := 1000) 1000 _ ?_
      refine Good.runC (by kernel_rfl) (stop := 1000) 6000 _ ?_
      refine Good.leave (by kernel_rfl) ?_
      refine Good.run (by kernel_rfl) (stop := 1000) 1000 _ ?_
      have he := bad (by rw [hpre, hS]; rfl)
      refine Good.ret (v := .tuple #[TV0.val, .int .i64 5]) (by kernel_rfl) (fun w1 hw h => ⟨TV0, by rw [he], hw, fun w'' k1 k2 => outA0 (by rw [he]; decide)⟩)
    refine Good.callv (fun w1 hw h => rvalidA_v hS (hxT.below hw) (by omega)) (by kernel_rfl) (fun u => ?_)
    refine Good.run (by kernel_rfl) (stop := 1000) 1000 _ ?_
    refine Good.cond false (by kernel_rfl) ?_
    refine Good.run (by kernel_rfl) (stop := 1000) 1000 _ ?_
    refine Good.askAt 3 (idxS 35 (.slice A n c) k) (.pointer (some (ad.add (k * 24)))) (by kernel_rfl) (fun w1 hw h => by rw [hA]; exact run_idxA (elem := 28) (by kernel_rfl) (by kernel_rfl) hlt) ?_
    refine Good.run (by kernel_rfl) (stop := 1000) 1000 _ ?_
    refine Good.askAt 4 (ldS 28 (ad.add (k * 24))) (x.val) (by kernel_rfl) (fun w1 hw h => run_ldA (vs := x.cl) (by kernel_rfl) (by kernel_rfl) (fun j v hv => keepc hw (hcells j v hv))) ?_
    refine Good.run (by kernel_rfl) (stop := 1000) 1000 _ ?_
    refine Good.callv (fun w1 hw h => rcompA_m (h.1.q.mono hK.1) (hxT.below hw) (by omega)) (by kernel_rfl) (fun b => ?_)
    refine Good.run (by kernel_rfl) (stop := 1000) 1000 _ ?_
    cases hB : (T.comp S).ok
    ·
      refine Good.callv (fun w1 hw h => rvalidA_v hB h.2.q (by omega)) (by kernel_rfl) (fun u => ?_)
      refine Good.run (by kernel_rfl) (stop := 1000) 1000 _ ?_
      refine Good.runC (by kernel_rfl) (stop := 1000) 6000 _ ?_
      refine Good.leave (by kernel_rfl) ?_
      refine Good.run (by kernel_rfl) (stop := 1000) 1000 _ ?_
      have he := bad (by rw [hpre, hS, hB]; rfl)
      refine Good.ret (v := .tuple #[TV0.val, .int .i64 5]) (by kernel_rfl) (fun w1 hw h => ⟨TV0, by rw [he], hw, fun w'' k1 k2 => outA0 (by rw [he]; decide)⟩)
    ·
      refine Good.callv (fun w1 hw h => rvalidA_v hB h.2.q (by omega)) (by kernel_rfl) (fun u => ?_)
      refine Good.run (by kernel_rfl) (stop := 1000) 1000 _ ?_
      refine Good.cond false (by kernel_rfl) ?_
      refine Good.run (by kernel_rfl) (stop := 1000) 1000 _ ?_
      refine Good.slot 5 (.int .i64 (IntKind.i64.wrap ((k : Int) + 1))) (.int .i64 ((k + 1 : Nat) : Int)) (by kernel_rfl) (by rw [wrap_succ hlt (by omega)]) ?_
      refine Good.next (⟨(k + 1, b, T.comp S), by show k + 1 ≤ n; omega, by rw [hpre, hS, hB, Bool.true_and, Bool.true_and], by rw [hcomp]; rfl⟩) (by kernel_rfl) (by show n - (k + 1) < n - k; omega) ⟨by kernel_rfl, by kernel_rfl, by kernel_rfl⟩ (fun u h => h.1.2.of_ok hB)
  ·
    refine Good.run (by kernel_rfl) (stop := 1000) 1000 _ ?_
    refine Good.condr (decide ((k : Int) < (n : Int))) false (by kernel_rfl) (by simp at hlt ⊢; omega) ?_
    refine Good.run (by kernel_rfl) (stop := 1000) 1000 _ ?_
    refine Good.leave (by kernel_rfl) ?_
    refine Good.run (by kernel_rfl) (stop := 1000) 1000 _ ?_
    have hd : Ts.drop k = [] := List.drop_eq_nil_of_le (by rw [hl.lenT]; omega)
    rw [hd] at hpre hcomp
    have he : compE Ts = 0 := by rw [cE, hpre]; rfl
    refine Good.ret (v := .tuple #[t.val, .int .i64 0]) (by kernel_rfl) (fun w1 hw h => ⟨t, by rw [he], hw, fun w'' k1 k2 => outAn he ((h w'' k1 k2).cast hcomp.symm)⟩)
set_option maxRecDepth 100000 in
set_option maxHeartbeats 1000000 in
theorem rquoA_m (h1 : IsQ r p K w) (h2 : IsQ s q K w) (hq : q ≠ 0) (hK : 2 ≤ K ∧ K ≤ 10000000) : Calls Tryz.prog 58 #[r.val, s.val] w (CallPost w RV.val fun v u => IsQN v (p / q) (K + K) u) := by
  refine Good.enter Tryz.func58 rfl ?_
  refine Good.run (by kernel_rfl) (stop := 1000) 1000 _ ?_
  refine Good.callv (fun w1 hw h => rqquo_m (h1.below hw) (h2.below hw) (by omega)) (by kernel_rfl) (fun x => ?_)
  refine Good.run (by kernel_rfl) (stop := 1000) 1000 _ ?_
  refine Good.ret (v := RV.val x) (by kernel_rfl) (fun w1 hw h => ⟨x, rfl, hw, fun w'' k1 k2 => quo_n (h w'' k1 k2).2 hq⟩)
set_option maxRecDepth 100000 in
set_option maxHeartbeats 1000000 in
theorem isZero_m {B : Bool} (hB : decide (q = 0) = B) (h1 : IsQ r q K w) (hK : 2 ≤ K ∧ K ≤ 10000000) : Calls Tryz.prog 52 #[r.val] w (CallPost w (fun _ : Unit => .bool B) fun _ _ => True) := by
  refine Good.enter Tryz.func52 rfl ?_
  refine Good.run (by kernel_rfl) (stop := 1000) 1000 _ ?_
  refine Good.callv (fun w1 hw h => rqfromInt_m 0 w1 (by decide) (by decide)) (by kernel_rfl) (fun z => ?_)
  refine Good.run (by kernel_rfl) (stop := 1000) 1000 _ ?_
  refine Good.callv (fun w1 hw h => rqcmp_m (h1.below hw) h.2.q (by omega)) (by kernel_rfl) (fun u => ?_)
  refine Good.run (by kernel_rfl) (stop := 1000) 1000 _ ?_
  refine Good.ret (v := .bool (cmpQ q ((0 : Int) : Rat) == 0)) (by kernel_rfl) (fun w1 hw h => ⟨(), by rw [cmpQ0 hB], hw, fun _ _ _ => trivial⟩)
theorem inv_ref : T.inv = ⟨T.d / T.det, -(T.b / T.det), -(T.c / T.det), T.a / T.det, -(T.d / T.det * T.e + -(T.c / T.det) * T.f), -(-(T.b / T.det) * T.e + T.a / T.det * T.f)⟩ := by
  have e1 : ∀ x y : Rat, -x / y = -(x / y) := fun x y => by rw [Rat.div_def, Rat.div_def, Rat.neg_mul]
  unfold Aff.inv
  rw [e1, e1, q0, Rat.add_zero, Rat.add_zero]
set_option maxRecDepth 100000 in
set_option maxHeartbeats 2000000 in
theorem rinvert_m (ht : IsA t T K w) (hK : 2 ≤ K ∧ K ≤ 10000) : Calls Tryz.prog 26 #[t.val] w (CallPost w (fun r : TV => .tuple #[r.val, .int .i64 (invE T)]) fun r u => OutA r (invE T) T.inv 8 u) := by
  refine Good.enter Tryz.func26 rfl ?_
  refine Good.run (by kernel_rfl) (stop := 1000) 1000 _ ?_
  cases hB : T.ok
  ·
    refine Good.callv (fun w1 hw h => rvalidA_v hB (ht.below hw) (by omega)) (by kernel_rfl) (fun u => ?_)
    refine Good.run (by kernel_rfl) (stop := 1000) 1000 _ ?_
    refine Good.runC (by kernel_rfl) (stop := 1000) 6000 _ ?_
    have he : invE T = 5 := by unfold invE; rw [if_pos hB]
    refine Good.ret (v := .tuple #[TV0.val, .int .i64 5]) (by kernel_rfl) (fun w1 hw h => ⟨TV0, by rw [he], hw, fun w'' k1 k2 => outA0 (by rw [he]; decide)⟩)
  refine Good.callv (fun w1 hw h => rvalidA_v hB (ht.below hw) (by omega)) (by kernel_rfl) (fun u => ?_)
  refine Good.run (by kernel_rfl) (stop := 1000) 1000 _ ?_
  refine Good.cond false (by kernel_rfl) ?_
  refine Good.run (by kernel_rfl) (stop := 1000) 1000 _ ?_
  refine Good.callv (fun w1 hw h => rdetA_m (ht.below hw) (by omega)) (by kernel_rfl) (fun d => ?_)
  refine Good.run (by kernel_rfl) (stop := 1000) 1000 _ ?_
  refine Good.callv (fun w1 hw h => rqfromInt_m 0 w1 (by decide) (by decide)) (by kernel_rfl) (fun z => ?_)
  refine Good.run (by kernel_rfl) (stop := 1000) 1000 _ ?_
  refine Good.callv (fun w1 hw h => rqcmp_m h.1.2.q h.2.q (by omega)) (by kernel_rfl) (fun u => ?_)
  refine Good.run (by kernel_rfl) (stop := 1000) 1000 _ ?_
  cases hD : decide (T.det = 0)
  case true =>
    refine Good.condr (cmpQ T.det ((0 : Int) : Rat) == 0) true (by kernel_rfl) (cmpQ0 hD) ?_
    refine Good.run (by kernel_rfl) (stop := 1000) 1000 _ ?_
    have he : invE T = 9 := by unfold invE; rw [if_neg (by rw [hB]; simp), if_pos (of_decide_eq_true hD)]
    refine Good.ret (v := .tuple #[TV0.val, .int .i64 9]) (by kernel_rfl) (fun w1 hw h => ⟨TV0, by rw [he], hw, fun w'' k1 k2 => outA0 (by rw [he]; decide)⟩)
  have hd0 : T.det ≠ 0 := of_decide_eq_false hD
  refine Good.condr (cmpQ T.det ((0 : Int) : Rat) == 0) false (by kernel_rfl) (cmpQ0 hD) ?_
  refine Good.run (by kernel_rfl) (stop := 1000) 1000 _ ?_
  refine Good.callv (fun w1 hw h => rquoA_m (K := 4 * K + 1) ((ht.d.below hw).mono (by omega)) h.1.1.2.q hd0 (by omega)) (by kernel_rfl) (fun a => ?_)
  refine Good.run (by kernel_rfl) (stop := 1000) 1000 _ ?_
  refine Good.callv (fun w1 hw h => rquoA_m (K := 4 * K + 1) ((ht.b.below hw).mono (by omega)) h.1.1.1.2.q hd0 (by omega)) (by kernel_rfl) (fun x => ?_)
  refine Good.run (by kernel_rfl) (stop := 1000) 1000 _ ?_
  refine Good.callv (fun w1 hw h => rqneg_m h.2.q (by omega)) (by kernel_rfl) (fun b => ?_)
  refine Good.run (by kernel_rfl) (stop := 1000) 1000 _ ?_
  refine Good.callv (fun w1 hw h => rquoA_m (K := 4 * K + 1) ((ht.c.below hw).mono (by omega)) h.1.1.1.1.1.2.q hd0 (by omega)) (by kernel_rfl) (fun y => ?_)
  refine Good.run (by kernel_rfl) (stop := 1000) 1000 _ ?_
  refine Good.callv (fun w1 hw h => rqneg_m h.2.q (by omega)) (by kernel_rfl) (fun c => ?_)
  refine Good.run (by kernel_rfl) (stop := 1000) 1000 _ ?_
  refine Good.callv (fun w1 hw h => rquoA_m (K := 4 * K + 1) ((ht.a.below hw).mono (by omega)) h.1.1.1.1.1.1.1.2.q hd0 (by omega)) (by kernel_rfl) (fun i => ?_)
  refine Good.run (by kernel_rfl) (stop := 1000) 1000 _ ?_
  refine Good.callv (fun w1 hw h => rdot_A (K := 8 * K + 2) (h.1.1.1.1.1.2.q.mono (by omega)) ((ht.e.below hw).mono (by omega)) (h.1.2.q.mono (by omega)) ((ht.f.below hw).mono (by omega)) (by omega)) (by kernel_rfl) (fun m => ?_)
  refine Good.run (by kernel_rfl) (stop := 1000) 1000 _ ?_
  refine Good.callv (fun w1 hw h => rqneg_m h.2.q (by omega)) (by kernel_rfl) (fun e => ?_)
  refine Good.run (by kernel_rfl) (stop := 1000) 1000 _ ?_
  refine Good.callv (fun w1 hw h => rdot_A (K := 8 * K + 2) (h.1.1.1.1.1.2.q.mono (by omega)) ((ht.e.below hw).mono (by omega)) (h.1.1.2.q.mono (by omega)) ((ht.f.below hw).mono (by omega)) (by omega)) (by kernel_rfl) (fun n => ?_)
  refine Good.run (by kernel_rfl) (stop := 1000) 1000 _ ?_
  refine Good.callv (fun w1 hw h => rqneg_m h.2.q (by omega)) (by kernel_rfl) (fun f => ?_)
  refine Good.run (by kernel_rfl) (stop := 1000) 1000 _ ?_
  have hN : ∀ u, (IsQN a (T.d / T.det) (4 * K + 1 + (4 * K + 1)) u ∧ IsQN b (-(T.b / T.det)) (4 * K + 1 + (4 * K + 1)) u ∧ IsQN c (-(T.c / T.det)) (4 * K + 1 + (4 * K + 1)) u ∧ IsQN i (T.a / T.det) (4 * K + 1 + (4 * K + 1)) u ∧ IsQN e (-(T.d / T.det * T.e + -(T.c / T.det) * T.f)) (4 * (8 * K + 2) + 1) u ∧ IsQN f (-(-(T.b / T.det) * T.e + T.a / T.det * T.f)) (4 * (8 * K + 2) + 1) u) → IsAN ⟨a, b, c, i, e, f⟩ T.inv (4 * (8 * K + 2) + 1) u := fun u h => by
    rw [inv_ref]
    exact ⟨h.1.mono (by omega), h.2.1.mono (by omega), h.2.2.1.mono (by omega), h.2.2.2.1.mono (by omega), h.2.2.2.2.1, h.2.2.2.2.2⟩
  cases hI : T.inv.ok
  ·
    refine Good.callv (fun w1 hw h => rvalidA_v (t := ⟨a, b, c, i, e, f⟩) hI (hN _ ⟨h.1.1.1.1.1.1.1.1.1.2, h.1.1.1.1.1.1.1.2, h.1.1.1.1.1.2, h.1.1.1.1.2, h.1.1.2, h.2⟩).q (by omega)) (by kernel_rfl) (fun u => ?_)
    refine Good.run (by kernel_rfl) (stop := 1000) 1000 _ ?_
    refine Good.runC (by kernel_rfl) (stop := 1000) 6000 _ ?_
    have he : invE T = 5 := by unfold invE; rw [if_neg (by rw [hB]; simp), if_neg hd0, if_pos hI]
    refine Good.ret (v := .tuple #[TV0.val, .int .i64 5]) (by kernel_rfl) (fun w1 hw h => ⟨TV0, by rw [he], hw, fun w'' k1 k2 => outA0 (by rw [he]; decide)⟩)
  refine Good.callv (fun w1 hw h => rvalidA_v (t := ⟨a, b, c, i, e, f⟩) hI (hN _ ⟨h.1.1.1.1.1.1.1.1.1.2, h.1.1.1.1.1.1.1.2, h.1.1.1.1.1.2, h.1.1.1.1.2, h.1.1.2, h.2⟩).q (by omega)) (by kernel_rfl) (fun u => ?_)
  refine Good.run (by kernel_rfl) (stop := 1000) 1000 _ ?_
  refine Good.cond false (by kernel_rfl) ?_
  refine Good.run (by kernel_rfl) (stop := 1000) 1000 _ ?_
  have he : invE T = 0 := by unfold invE; rw [if_neg (by rw [hB]; simp), if_neg hd0, if_neg (by rw [hI]; simp)]
  refine Good.ret (v := .tuple #[(TV.mk a b c i e f).val, .int .i64 0]) (by kernel_rfl) (fun w1 hw h => ⟨⟨a, b, c, i, e, f⟩, by rw [he], hw, fun w'' k1 k2 => outAn he ((hN _ ⟨(h w'' k1 k2).1.1.1.1.1.1.1.1.1.1.2, (h w'' k1 k2).1.1.1.1.1.1.1.1.2, (h w'' k1 k2).1.1.1.1.1.1.2, (h w'' k1 k2).1.1.1.1.1.2, (h w'' k1 k2).1.1.1.2, (h w'' k1 k2).1.2⟩).of_ok hI)⟩)
end

section
variable {P : Program} {Δ : List Deferred} {W : World} {Q : Exit → Act → World → Prop} {Φ Φ' : World → Prop} {c : Cfg}
theorem Good.weaken (hp : ∀ w, Φ w → Φ' w) (h : Good P Δ W Q Φ' c) (hf : notAny c = true := by kernel_rfl) : Good P Δ W Q Φ c := by
  obtain ⟨foc, k, σ⟩ := c
  replace h := h.get
  refine ⟨?_⟩
  unfold GoodD at h ⊢
  cases foc with
  | code x => exact fun hwf β a w hr => h hwf β a w { hr with keep := fun w' hw => hp _ (hr.keep w' hw) }
  | ops o l => exact fun hwf β a w hr => h hwf β a w { hr with keep := fun w' hw => hp _ (hr.keep w' hw) }
  | any o f l => cases hf
  | out e => exact fun hwf β a w hr => h hwf β a w { hr with keep := fun w' hw => hp _ (hr.keep w' hw) }
end
section
variable {w : World} {t u : TV} {T U : Aff} {K K1 K2 : Nat} {r s : RV} {p q : Rat} {X Y : Int}
structure Five (q : TV × TV × TV × TV × TV) (Ts : List Aff) (K : Nat) (u : World) : Prop where
  n0 : ∃ T, Ts[0]? = some T ∧ IsAN q.1 T K u
  n1 : ∃ T, Ts[1]? = some T ∧ IsAN q.2.1 T K u
  n2 : ∃ T, Ts[2]? = some T ∧ IsAN q.2.2.1 T K u
  n3 : ∃ T, Ts[3]? = some T ∧ IsAN q.2.2.2.1 T K u
  n4 : ∃ T, Ts[4]? = some T ∧ IsAN q.2.2.2.2 T K u
theorem OwnR.range5 {u : World} {B g c k : Nat} {t0 t1 t2 t3 t4 s : TV} {ty : TypeId} (h : OwnR u B ty 24 (some ⟨g, 0, none⟩) 5 c ([t0, t1, t2, t3, t4].flatMap TV.cl)) (hk : [t0, t1, t2, t3, t4][k]? = some s) : u.rangeAt g (k * 24) s.cl := by
  obtain ⟨g', hA, hc⟩ := h.cells (by decide)
  injection hA with hA
  injection hA with hA
  subst hA
  intro j v hv
  exact hc _ v (flat_at TV.cl (m := 24) (fun _ => rfl) _ k j s v hk hv)
def rdecV (T : Aff) (y : Option Addr × Nat) : Value := if decE T = 0 then .slice y.1 5 y.2 else .slice none 0 0
set_option maxRecDepth 100000 in
set_option maxHeartbeats 8000000 in
theorem rdecompose_m (ht : IsA t T K w) (hK : 2 ≤ K ∧ K ≤ 10000) : Calls Tryz.prog 23 #[t.val] w (CallPost w (fun q : (Option Addr × Nat) × (TV × TV × TV × TV × TV) => .tuple #[rdecV T q.1, .int .i64 (decE T)]) fun q u => decE T = 0 → OwnR u w.heap.size 28 24 q.1.1 5 q.1.2 ([q.2.1, q.2.2.1, q.2.2.2.1, q.2.2.2.2.1, q.2.2.2.2.2].flatMap TV.cl) ∧ Five q.2 (partsA T) (8 * K + 2) u) := by
  have out : ∀ e, decE T = e → e ≠ 0 → ∀ g, (Value.tuple #[rdecV T g, .int .i64 (decE T)]) = .tuple #[.slice none 0 0, .int .i64 e] := fun e he h0 g => by unfold rdecV; rw [he, if_neg h0]
  refine Good.enter Tryz.func23 rfl ?_
  refine Good.run (by kernel_rfl) (stop := 1000) 1000 _ ?_
  cases hB : T.ok
  ·
    refine Good.callv (fun w1 hw h => rvalidA_v hB (ht.below hw) (by omega)) (by kernel_rfl) (fun u => ?_)
    refine Good.run (by kernel_rfl) (stop := 1000) 1000 _ ?_
    refine Good.runC (by kernel_rfl) (stop := 1000) 6000 _ ?_
    have he : decE T = 5 := by unfold decE; rw [if_pos hB]
    refine Good.ret (v := .tuple #[.slice none 0 0, .int .i64 5]) (by kernel_rfl) (fun w1 hw h => ⟨((none, 0), t, t, t, t, t), congrArg Ending.returned (out 5 he (by decide) _).symm, hw, fun w'' k1 k2 e => by rw [he] at e; cases e⟩)
  refine Good.callv (fun w1 hw h => rvalidA_v hB (ht.below hw) (by omega)) (by kernel_rfl) (fun u => ?_)
  refine Good.run (by kernel_rfl) (stop := 1000) 1000 _ ?_
  refine Good.cond false (by kernel_rfl) ?_
  refine Good.run (by kernel_rfl) (stop := 1000) 1000 _ ?_
  refine Good.callv (fun w1 hw h => rdetA_m (ht.below hw) (by omega)) (by kernel_rfl) (fun dd => ?_)
  refine Good.run (by kernel_rfl) (stop := 1000) 1000 _ ?_
  cases hD : decide (T.det = 0)
  case true =>
    refine Good.callv (fun w1 hw h => isZero_m hD h.2.q (by omega)) (by kernel_rfl) (fun u => ?_)
    refine Good.run (by kernel_rfl) (stop := 1000) 1000 _ ?_
    refine Good.runC (by kernel_rfl) (stop := 1000) 6000 _ ?_
    have he : decE T = 9 := by unfold decE; rw [if_neg (by rw [hB]; simp), if_pos (of_decide_eq_true hD)]
    refine Good.ret (v := .tuple #[.slice none 0 0, .int .i64 9]) (by kernel_rfl) (fun w1 hw h => ⟨((none, 0), t, t, t, t, t), congrArg Ending.returned (out 9 he (by decide) _).symm, hw, fun w'' k1 k2 e => by rw [he] at e; cases e⟩)
  have hd0 : T.det ≠ 0 := of_decide_eq_false hD
  have bad : (partsA T).all Aff.ok = false → decE T = 5 := fun h => by unfold decE; rw [if_neg (by rw [hB]; simp), if_neg hd0, if_pos h]
  obtain ⟨T0, hT0⟩ : ∃ S, (partsA T)[0]? = some S := ⟨_, List.getElem?_eq_getElem (by rw [partsA_len]; decide)⟩
  obtain ⟨T1, hT1⟩ : ∃ S, (partsA T)[1]? = some S := ⟨_, List.getElem?_eq_getElem (by rw [partsA_len]; decide)⟩
  obtain ⟨T2, hT2⟩ : ∃ S, (partsA T)[2]? = some S := ⟨_, List.getElem?_eq_getElem (by rw [partsA_len]; decide)⟩
  obtain ⟨T3, hT3⟩ : ∃ S, (partsA T)[3]? = some S := ⟨_, List.getElem?_eq_getElem (by rw [partsA_len]; decide)⟩
  obtain ⟨T4, hT4⟩ : ∃ S, (partsA T)[4]? = some S := ⟨_, List.getElem?_eq_getElem (by rw [partsA_len]; decide)⟩
  refine Good.callv (fun w1 hw h => isZero_m hD h.2.q (by omega)) (by kernel_rfl) (fun u => ?_)
  refine Good.run (by kernel_rfl) (stop := 1000) 1000 _ ?_
  refine Good.cond false (by kernel_rfl) ?_
  refine Good.run (by kernel_rfl) (stop := 1000) 1000 _ ?_
  refine Good.callv (fun w1 hw h => rqfromInt_m 0 w1 (by decide) (by decide)) (by kernel_rfl) (fun z => ?_)
  refine Good.run (by kernel_rfl) (stop := 1000) 1000 _ ?_
  refine Good.make (litS 35 0 #[]) (litV 0) (litG 28 #[]) (by kernel_rfl) (fun w1 hw h => make_lit (by kernel_rfl)) (fun g0 => ?_)
  refine Good.run (by kernel_rfl) (stop := 1000) 1000 _ ?_
  cases hA : decide (T.a = 0)
  case true =>
    have hp : partsA T = [qtA 1, affId, { affId with a := -T.c, d := T.b }, { affId with c := ((0 : Int) : Rat), b := T.d / T.c }, { affId with e := T.e, f := T.f }] := by unfold partsA; rw [if_pos (of_decide_eq_true hA)]
    have hc0 := det_c (of_decide_eq_true hA) hd0
    refine Good.callv (fun w1 hw h => isZero_m hA (ht.a.below hw) (by omega)) (by kernel_rfl) (fun u => ?_)
    refine Good.run (by kernel_rfl) (stop := 1000) 1000 _ ?_
    refine Good.cond true (by kernel_rfl) ?_
    refine Good.run (by kernel_rfl) (stop := 1000) 1000 _ ?_
    refine Good.callv (fun w1 hw h => rqt_m (n := 1)) (by kernel_rfl) (fun a => ?_)
    refine Good.run (by kernel_rfl) (stop := 1000) 1000 _ ?_
    refine Good.callv (fun w1 hw h => ridentity_m) (by kernel_rfl) (fun b => ?_)
    refine Good.run (by kernel_rfl) (stop := 1000) 1000 _ ?_
    refine Good.callv (fun w1 hw h => rqneg_m (ht.c.below hw) (by omega)) (by kernel_rfl) (fun n => ?_)
    refine Good.run (by kernel_rfl) (stop := 1000) 1000 _ ?_
    refine Good.callv (fun w1 hw h => rscale_m h.2.q (ht.b.below hw) (by omega)) (by kernel_rfl) (fun c => ?_)
    refine Good.run (by kernel_rfl) (stop := 1000) 1000 _ ?_
    refine Good.callv (fun w1 hw h => rquoA_m (ht.d.below hw) (ht.c.below hw) hc0 (by omega)) (by kernel_rfl) (fun x => ?_)
    refine Good.run (by kernel_rfl) (stop := 1000) 1000 _ ?_
    refine Good.callv (fun w1 hw h => rskew_m (K := K + K) (h.1.1.1.1.1.1.1.2.q.mono (by omega)) h.2.q (by omega)) (by kernel_rfl) (fun d => ?_)
    refine Good.run (by kernel_rfl) (stop := 16) 1000 _ ?_
    refine Good.make (litS 35 4 #[(0, a.val), (1, b.val), (2, c.val), (3, d.val)]) (litV 4) (litG 28 ([a, b, c, d].flatMap TV.cl).toArray) (by kernel_rfl) (fun w1 hw h => make_lit (by kernel_rfl)) (fun g2 => ?_)
    refine Good.run (by kernel_rfl) (stop := 17) 1000 _ ?_
    refine Good.make (appS 35 35 (litV 0 g0) (litV 4 g2)) (fun y : Option Addr × Nat => .slice y.1 4 y.2) (fun y v => OwnR v w.heap.size 28 24 y.1 4 y.2 ([a, b, c, d].flatMap TV.cl) ∧ Apart y.1 a ∧ Apart y.1 b ∧ Apart y.1 c ∧ Apart y.1 d) (by kernel_rfl) (fun w1 hw h => (appendG_m (B := w1.heap.size) (z := TV0.val) (bytes := 384) (n := 0) (m := 4) (xs := []) (by kernel_rfl) (by kernel_rfl) rfl (by decide) ⟨rfl, fun h => absurd h (by decide)⟩ (litG_reads (n := 4) h.2 rfl) (by decide) (by decide) (by decide) (Nat.le_refl _) (.inr rfl) (.inl (by decide))).cast fun y v hv => ⟨hv.rebase (fun b hb => Nat.le_trans hw.size (hv.lt b hb).1), fun b hb b' hb' e => by have := (hv.lt b hb).1; have := h.1.1.1.1.1.1.2.blkLt b' hb'; omega, fun b hb b' hb' e => by have := (hv.lt b hb).1; have := h.1.1.1.1.1.2.blkLt b' hb'; omega, fun b hb b' hb' e => by have := (hv.lt b hb).1; have := h.1.1.1.2.blkLt b' hb'; omega, fun b hb b' hb' e => by have := (hv.lt b hb).1; have := h.1.2.blkLt b' hb'; omega⟩) (fun y => ?_)
    refine Good.run (by kernel_rfl) (stop := 1000) 1000 _ ?_
    refine Good.callv (fun w1 hw h => (rtranslate_m (K := K) (ht.e.below hw) (ht.f.below hw) (by omega)).mono fun _ _ hh => (hh.newer blkT (fun _ _ k => k.blk)).cast (G' := fun x u => IsAN x { affId with e := T.e, f := T.f } K u ∧ Apart y.1 x) fun x u hx => ⟨hx.1, fun b hb b' hb' e => by have := hx.2 b' hb'; have := (h.2.1.lt b hb).2; omega⟩) (by kernel_rfl) (fun m => ?_)
    refine Good.run (by kernel_rfl) (stop := 6) 1000 _ ?_
    refine Good.make (litS 35 1 #[(0, m.val)]) (litV 1) (litG 28 m.cl.toArray) (by kernel_rfl) (fun w1 hw h => make_lit (by kernel_rfl)) (fun g3 => ?_)
    refine Good.run (by kernel_rfl) (stop := 7) 1000 _ ?_
    refine Good.mutOp (L := bl y.1) (Φ' := fun (z : Option Addr × Nat) v => OwnR v w.heap.size 28 24 z.1 5 z.2 ([a, b, c, d, m].flatMap TV.cl) ∧ Five (a, b, c, d, m) (partsA T) (8 * K + 2) v) (G := fun (z : Option Addr × Nat) v => OwnR v w.heap.size 28 24 z.1 5 z.2 ([a, b, c, d].flatMap TV.cl ++ m.cl)) (appS 35 35 (.slice y.1 4 y.2) (litV 1 g3)) (fun w1 hw h => appendR_m (z := TV0.val) (bytes := 384) (by kernel_rfl) (by kernel_rfl) rfl (by decide) h.1.1.2.1 hw.size (litG_reads (n := 1) h.2 rfl) (List.all_eq_true.1 (show m.cl.all Value.oneCell' = true from rfl)) (by decide) (by decide)) (fun w1 h => fun b hb => ⟨(h.1.1.2.1.lt b hb).1, (h.1.1.2.1.blk b hb).2⟩) (fun z wa w1 e1 e2 h hG => ⟨by have e : [a, b, c, d, m].flatMap TV.cl = [a, b, c, d].flatMap TV.cl ++ m.cl := by { simp [List.flatMap_cons] }; rw [e]; exact hG, by rw [hp]; exact ⟨⟨_, rfl, (h.1.1.1.1.1.1.1.1.1.2.mono (by omega)).leftB e1 e2 (fun b' hb' hb => h.1.1.2.2.1 b' hb b' hb' rfl)⟩, ⟨_, rfl, (h.1.1.1.1.1.1.1.1.2.mono (by omega)).leftB e1 e2 (fun b' hb' hb => h.1.1.2.2.2.1 b' hb b' hb' rfl)⟩, ⟨_, rfl, (h.1.1.1.1.1.1.2.mono (by omega)).leftB e1 e2 (fun b' hb' hb => h.1.1.2.2.2.2.1 b' hb b' hb' rfl)⟩, ⟨_, rfl, (h.1.1.1.1.2.mono (by omega)).leftB e1 e2 (fun b' hb' hb => h.1.1.2.2.2.2.2 b' hb b' hb' rfl)⟩, ⟨_, rfl, (h.1.2.1.mono (by omega)).leftB e1 e2 (fun b' hb' hb => h.1.2.2 b' hb b' hb' rfl)⟩⟩⟩) (by kernel_rfl) (by kernel_rfl) (fun zz => ?_)
    obtain ⟨zA, zc⟩ := zz
    refine Good.pure_ (p := ∃ g, zA = some ⟨g, 0, none⟩) (fun w1 hw h => by obtain ⟨g, hg, _⟩ := h.1.cells (by decide); exact ⟨g, hg⟩) (by kernel_rfl) (fun hz => ?_)
    obtain ⟨gz, rfl⟩ := hz
    refine Good.run (by kernel_rfl) (stop := 1000) 1000 _ ?_
    refine Good.un (by kernel_rfl) ?_
    refine Good.run (by kernel_rfl) (stop := 1000) 1000 _ ?_
    refine Good.cond true (by kernel_rfl) ?_
    refine Good.run (by kernel_rfl) (stop := 1000) 1000 _ ?_
    refine Good.ask (idxS 35 (.slice (some ⟨gz, 0, none⟩) 5 zc) 0) (.pointer (some ⟨gz, 0 * 24, none⟩)) (by kernel_rfl) (fun w1 hw h => run_idxN (elem := 28) (by kernel_rfl) (by kernel_rfl) (by decide)) ?_
    refine Good.run (by kernel_rfl) (stop := 1000) 1000 _ ?_
    refine Good.ask (ldS 28 ⟨gz, 0 * 24, none⟩) (a.val) (by kernel_rfl) (fun w1 hw h => run_ldN (vs := a.cl) (by kernel_rfl) (by kernel_rfl) (h.1.range5 rfl)) ?_
    refine Good.run (by kernel_rfl) (stop := 1000) 1000 _ ?_
    cases hB0 : T0.ok
    ·
      refine Good.callv (fun w1 hw h => rvalidA_v (K := 8 * K + 2) hB0 (by obtain ⟨S, hS, hn⟩ := h.2.n0; rw [hT0] at hS; injection hS with hS; rw [hS]; exact hn.q) (by omega)) (by kernel_rfl) (fun u => ?_)
      refine Good.run (by kernel_rfl) (stop := 1000) 1000 _ ?_
      refine Good.runC (by kernel_rfl) (stop := 1000) 6000 _ ?_
      have he := bad (notall hT0 hB0)
      refine Good.ret (v := .tuple #[.slice none 0 0, .int .i64 5]) (by kernel_rfl) (fun w1 hw h => ⟨((none, 0), t, t, t, t, t), congrArg Ending.returned (out 5 he (by decide) _).symm, hw, fun w'' k1 k2 e => by rw [he] at e; cases e⟩)
    refine Good.callv (G := fun _ _ => True) (fun w1 hw h => rvalidA_v (K := 8 * K + 2) hB0 (by obtain ⟨S, hS, hn⟩ := h.2.n0; rw [hT0] at hS; injection hS with hS; rw [hS]; exact hn.q) (by omega)) (by kernel_rfl) (fun _ => ?_)
    refine Good.run (by kernel_rfl) (stop := 1000) 1000 _ ?_
    refine Good.weaken (fun _ h => h.1) ?_
    refine Good.cond false (by kernel_rfl) ?_
    refine Good.run (by kernel_rfl) (stop := 1000) 1000 _ ?_
    refine Good.cond true (by kernel_rfl) ?_
    refine Good.run (by kernel_rfl) (stop := 1000) 1000 _ ?_
    refine Good.ask (idxS 35 (.slice (some ⟨gz, 0, none⟩) 5 zc) 1) (.pointer (some ⟨gz, 1 * 24, none⟩)) (by kernel_rfl) (fun w1 hw h => run_idxN (elem := 28) (by kernel_rfl) (by kernel_rfl) (by decide)) ?_
    refine Good.run (by kernel_rfl) (stop := 1000) 1000 _ ?_
    refine Good.ask (ldS 28 ⟨gz, 1 * 24, none⟩) (b.val) (by kernel_rfl) (fun w1 hw h => run_ldN (vs := b.cl) (by kernel_rfl) (by kernel_rfl) (h.1.range5 rfl)) ?_
    refine Good.run (by kernel_rfl) (stop := 1000) 1000 _ ?_
    cases hB1 : T1.ok
    ·
      refine Good.callv (fun w1 hw h => rvalidA_v (K := 8 * K + 2) hB1 (by obtain ⟨S, hS, hn⟩ := h.2.n1; rw [hT1] at hS; injection hS with hS; rw [hS]; exact hn.q) (by omega)) (by kernel_rfl) (fun u => ?_)
      refine Good.run (by kernel_rfl) (stop := 1000) 1000 _ ?_
      refine Good.runC (by kernel_rfl) (stop := 1000) 6000 _ ?_
      have he := bad (notall hT1 hB1)
      refine Good.ret (v := .tuple #[.slice none 0 0, .int .i64 5]) (by kernel_rfl) (fun w1 hw h => ⟨((none, 0), t, t, t, t, t), congrArg Ending.returned (out 5 he (by decide) _).symm, hw, fun w'' k1 k2 e => by rw [he] at e; cases e⟩)
    refine Good.callv (G := fun _ _ => True) (fun w1 hw h => rvalidA_v (K := 8 * K + 2) hB1 (by obtain ⟨S, hS, hn⟩ := h.2.n1; rw [hT1] at hS; injection hS with hS; rw [hS]; exact hn.q) (by omega)) (by kernel_rfl) (fun _ => ?_)
    refine Good.run (by kernel_rfl) (stop := 1000) 1000 _ ?_
    refine Good.weaken (fun _ h => h.1) ?_
    refine Good.cond false (by kernel_rfl) ?_
    refine Good.run (by kernel_rfl) (stop := 1000) 1000 _ ?_
    refine Good.cond true (by kernel_rfl) ?_
    refine Good.run (by kernel_rfl) (stop := 1000) 1000 _ ?_
    refine Good.ask (idxS 35 (.slice (some ⟨gz, 0, none⟩) 5 zc) 2) (.pointer (some ⟨gz, 2 * 24, none⟩)) (by kernel_rfl) (fun w1 hw h => run_idxN (elem := 28) (by kernel_rfl) (by kernel_rfl) (by decide)) ?_
    refine Good.run (by kernel_rfl) (stop := 1000) 1000 _ ?_
    refine Good.ask (ldS 28 ⟨gz, 2 * 24, none⟩) (c.val) (by kernel_rfl) (fun w1 hw h => run_ldN (vs := c.cl) (by kernel_rfl) (by kernel_rfl) (h.1.range5 rfl)) ?_
    refine Good.run (by kernel_rfl) (stop := 1000) 1000 _ ?_
    cases hB2 : T2.ok
    ·
      refine Good.callv (fun w1 hw h => rvalidA_v (K := 8 * K + 2) hB2 (by obtain ⟨S, hS, hn⟩ := h.2.n2; rw [hT2] at hS; injection hS with hS; rw [hS]; exact hn.q) (by omega)) (by kernel_rfl) (fun u => ?_)
      refine Good.run (by kernel_rfl) (stop := 1000) 1000 _ ?_
      refine Good.runC (by kernel_rfl) (stop := 1000) 6000 _ ?_
      have he := bad (notall hT2 hB2)
      refine Good.ret (v := .tuple #[.slice none 0 0, .int .i64 5]) (by kernel_rfl) (fun w1 hw h => ⟨((none, 0), t, t, t, t, t), congrArg Ending.returned (out 5 he (by decide) _).symm, hw, fun w'' k1 k2 e => by rw [he] at e; cases e⟩)
    refine Good.callv (G := fun _ _ => True) (fun w1 hw h => rvalidA_v (K := 8 * K + 2) hB2 (by obtain ⟨S, hS, hn⟩ := h.2.n2; rw [hT2] at hS; injection hS with hS; rw [hS]; exact hn.q) (by omega)) (by kernel_rfl) (fun _ => ?_)
    refine Good.run (by kernel_rfl) (stop := 1000) 1000 _ ?_
    refine Good.weaken (fun _ h => h.1) ?_
    refine Good.cond false (by kernel_rfl) ?_
    refine Good.run (by kernel_rfl) (stop := 1000) 1000 _ ?_
    refine Good.cond true (by kernel_rfl) ?_
    refine Good.run (by kernel_rfl) (stop := 1000) 1000 _ ?_
    refine Good.ask (idxS 35 (.slice (some ⟨gz, 0, none⟩) 5 zc) 3) (.pointer (some ⟨gz, 3 * 24, none⟩)) (by kernel_rfl) (fun w1 hw h => run_idxN (elem := 28) (by kernel_rfl) (by kernel_rfl) (by decide)) ?_
    refine Good.run (by kernel_rfl) (stop := 1000) 1000 _ ?_
    refine Good.ask (ldS 28 ⟨gz, 3 * 24, none⟩) (d.val) (by kernel_rfl) (fun w1 hw h => run_ldN (vs := d.cl) (by kernel_rfl) (by kernel_rfl) (h.1.range5 rfl)) ?_
    refine Good.run (by kernel_rfl) (stop := 1000) 1000 _ ?_
    cases hB3 : T3.ok
    ·
      refine Good.callv (fun w1 hw h => rvalidA_v (K := 8 * K + 2) hB3 (by obtain ⟨S, hS, hn⟩ := h.2.n3; rw [hT3] at hS; injection hS with hS; rw [hS]; exact hn.q) (by omega)) (by kernel_rfl) (fun u => ?_)
      refine Good.run (by kernel_rfl) (stop := 1000) 1000 _ ?_
      refine Good.runC (by kernel_rfl) (stop := 1000) 6000 _ ?_
      have he := bad (notall hT3 hB3)
      refine Good.ret (v := .tuple #[.slice none 0 0, .int .i64 5]) (by kernel_rfl) (fun w1 hw h => ⟨((none, 0), t, t, t, t, t), congrArg Ending.returned (out 5 he (by decide) _).symm, hw, fun w'' k1 k2 e => by rw [he] at e; cases e⟩)
    refine Good.callv (G := fun _ _ => True) (fun w1 hw h => rvalidA_v (K := 8 * K + 2) hB3 (by obtain ⟨S, hS, hn⟩ := h.2.n3; rw [hT3] at hS; injection hS with hS; rw [hS]; exact hn.q) (by omega)) (by kernel_rfl) (fun _ => ?_)
    refine Good.run (by kernel_rfl) (stop := 1000) 1000 _ ?_
    refine Good.weaken (fun _ h => h.1) ?_
    refine Good.cond false (by kernel_rfl) ?_
    refine Good.run (by kernel_rfl) (stop := 1000) 1000 _ ?_
    refine Good.cond true (by kernel_rfl) ?_
    refine Good.run (by kernel_rfl) (stop := 1000) 1000 _ ?_
    refine Good.ask (idxS 35 (.slice (some ⟨gz, 0, none⟩) 5 zc) 4) (.pointer (some ⟨gz, 4 * 24, none⟩)) (by kernel_rfl) (fun w1 hw h => run_idxN (elem := 28) (by kernel_rfl) (by kernel_rfl) (by decide)) ?_
    refine Good.run (by kernel_rfl) (stop := 1000) 1000 _ ?_
    refine Good.ask (ldS 28 ⟨gz, 4 * 24, none⟩) (m.val) (by kernel_rfl) (fun w1 hw h => run_ldN (vs := m.cl) (by kernel_rfl) (by kernel_rfl) (h.1.range5 rfl)) ?_
    refine Good.run (by kernel_rfl) (stop := 1000) 1000 _ ?_
    cases hB4 : T4.ok
    ·
      refine Good.callv (fun w1 hw h => rvalidA_v (K := 8 * K + 2) hB4 (by obtain ⟨S, hS, hn⟩ := h.2.n4; rw [hT4] at hS; injection hS with hS; rw [hS]; exact hn.q) (by omega)) (by kernel_rfl) (fun u => ?_)
      refine Good.run (by kernel_rfl) (stop := 1000) 1000 _ ?_
      refine Good.runC (by kernel_rfl) (stop := 1000) 6000 _ ?_
      have he := bad (notall hT4 hB4)
      refine Good.ret (v := .tuple #[.slice none 0 0, .int .i64 5]) (by kernel_rfl) (fun w1 hw h => ⟨((none, 0), t, t, t, t, t), congrArg Ending.returned (out 5 he (by decide) _).symm, hw, fun w'' k1 k2 e => by rw [he] at e; cases e⟩)
    refine Good.callv (G := fun _ _ => True) (fun w1 hw h => rvalidA_v (K := 8 * K + 2) hB4 (by obtain ⟨S, hS, hn⟩ := h.2.n4; rw [hT4] at hS; injection hS with hS; rw [hS]; exact hn.q) (by omega)) (by kernel_rfl) (fun _ => ?_)
    refine Good.run (by kernel_rfl) (stop := 1000) 1000 _ ?_
    refine Good.weaken (fun _ h => h.1) ?_
    refine Good.cond false (by kernel_rfl) ?_
    refine Good.run (by kernel_rfl) (stop := 1000) 1000 _ ?_
    refine Good.cond false (by kernel_rfl) ?_
    refine Good.run (by kernel_rfl) (stop := 1000) 1000 _ ?_
    have hall : (partsA T).all Aff.ok = true := by
      have h5 := partsA_len (T := T)
      match hm : partsA T, h5 with
      | [a, b, c, d, e], _ =>
        rw [hm] at hT0 hT1 hT2 hT3 hT4
        simp only [List.getElem?_cons_zero, List.getElem?_cons_succ, Option.some.injEq] at hT0 hT1 hT2 hT3 hT4
        subst hT0; subst hT1; subst hT2; subst hT3; subst hT4
        simp [hB0, hB1, hB2, hB3, hB4]
    have he : decE T = 0 := by unfold decE; rw [if_neg (by rw [hB]; simp), if_neg hd0, if_neg (by rw [hall]; simp)]
    refine Good.ret (v := .tuple #[.slice (some ⟨gz, 0, none⟩) 5 zc, .int .i64 0]) (by kernel_rfl) (fun w1 hw h => ⟨((some ⟨gz, 0, none⟩, zc), a, b, c, d, m), by unfold rdecV; rw [he]; rfl, hw, fun w'' k1 k2 _ => h w'' k1 k2⟩)
  case false =>
    have hp : partsA T = [affId, { affId with c := T.c / T.a, b := ((0 : Int) : Rat) }, { affId with a := T.a, d := T.det / T.a }, { affId with c := ((0 : Int) : Rat), b := T.b / T.a }, { affId with e := T.e, f := T.f }] := by unfold partsA; rw [if_neg (of_decide_eq_false hA)]
    have ha0 : T.a ≠ 0 := of_decide_eq_false hA
    refine Good.callv (fun w1 hw h => isZero_m hA (ht.a.below hw) (by omega)) (by kernel_rfl) (fun u => ?_)
    refine Good.run (by kernel_rfl) (stop := 1000) 1000 _ ?_
    refine Good.cond false (by kernel_rfl) ?_
    refine Good.run (by kernel_rfl) (stop := 1000) 1000 _ ?_
    refine Good.callv (fun w1 hw h => rqt_m (n := 0)) (by kernel_rfl) (fun a => ?_)
    refine Good.run (by kernel_rfl) (stop := 1000) 1000 _ ?_
    refine Good.callv (fun w1 hw h => rquoA_m (ht.c.below hw) (ht.a.below hw) ha0 (by omega)) (by kernel_rfl) (fun x => ?_)
    refine Good.run (by kernel_rfl) (stop := 1000) 1000 _ ?_
    refine Good.callv (fun w1 hw h => rskew_m (K := K + K) h.2.q (h.1.1.1.1.2.q.mono (by omega)) (by omega)) (by kernel_rfl) (fun b => ?_)
    refine Good.run (by kernel_rfl) (stop := 1000) 1000 _ ?_
    refine Good.callv (fun w1 hw h => rquoA_m (K := 4 * K + 1) h.1.1.1.1.1.1.1.2.q ((ht.a.below hw).mono (by omega)) ha0 (by omega)) (by kernel_rfl) (fun yy => ?_)
    refine Good.run (by kernel_rfl) (stop := 1000) 1000 _ ?_
    refine Good.callv (fun w1 hw h => rscale_m ((ht.a.below hw).mono (by omega)) h.2.q (by omega)) (by kernel_rfl) (fun c => ?_)
    refine Good.run (by kernel_rfl) (stop := 1000) 1000 _ ?_
    refine Good.callv (fun w1 hw h => rquoA_m (ht.b.below hw) (ht.a.below hw) ha0 (by omega)) (by kernel_rfl) (fun l => ?_)
    refine Good.run (by kernel_rfl) (stop := 1000) 1000 _ ?_
    refine Good.callv (fun w1 hw h => rskew_m (K := K + K) (h.1.1.1.1.1.1.1.1.2.q.mono (by omega)) h.2.q (by omega)) (by kernel_rfl) (fun d => ?_)
    refine Good.run (by kernel_rfl) (stop := 23) 1000 _ ?_
    refine Good.make (litS 35 4 #[(0, a.val), (1, b.val), (2, c.val), (3, d.val)]) (litV 4) (litG 28 ([a, b, c, d].flatMap TV.cl).toArray) (by kernel_rfl) (fun w1 hw h => make_lit (by kernel_rfl)) (fun g2 => ?_)
    refine Good.run (by kernel_rfl) (stop := 24) 1000 _ ?_
    refine Good.make (appS 35 35 (litV 0 g0) (litV 4 g2)) (fun y : Option Addr × Nat => .slice y.1 4 y.2) (fun y v => OwnR v w.heap.size 28 24 y.1 4 y.2 ([a, b, c, d].flatMap TV.cl) ∧ Apart y.1 a ∧ Apart y.1 b ∧ Apart y.1 c ∧ Apart y.1 d) (by kernel_rfl) (fun w1 hw h => (appendG_m (B := w1.heap.size) (z := TV0.val) (bytes := 384) (n := 0) (m := 4) (xs := []) (by kernel_rfl) (by kernel_rfl) rfl (by decide) ⟨rfl, fun h => absurd h (by decide)⟩ (litG_reads (n := 4) h.2 rfl) (by decide) (by decide) (by decide) (Nat.le_refl _) (.inr rfl) (.inl (by decide))).cast fun y v hv => ⟨hv.rebase (fun b hb => Nat.le_trans hw.size (hv.lt b hb).1), fun b hb b' hb' e => by have := (hv.lt b hb).1; have := h.1.1.1.1.1.1.1.2.blkLt b' hb'; omega, fun b hb b' hb' e => by have := (hv.lt b hb).1; have := h.1.1.1.1.1.2.blkLt b' hb'; omega, fun b hb b' hb' e => by have := (hv.lt b hb).1; have := h.1.1.1.2.blkLt b' hb'; omega, fun b hb b' hb' e => by have := (hv.lt b hb).1; have := h.1.2.blkLt b' hb'; omega⟩) (fun y => ?_)
    refine Good.run (by kernel_rfl) (stop := 1000) 1000 _ ?_
    refine Good.callv (fun w1 hw h => (rtranslate_m (K := K) (ht.e.below hw) (ht.f.below hw) (by omega)).mono fun _ _ hh => (hh.newer blkT (fun _ _ k => k.blk)).cast (G' := fun x u => IsAN x { affId with e := T.e, f := T.f } K u ∧ Apart y.1 x) fun x u hx => ⟨hx.1, fun b hb b' hb' e => by have := hx.2 b' hb'; have := (h.2.1.lt b hb).2; omega⟩) (by kernel_rfl) (fun m => ?_)
    refine Good.run (by kernel_rfl) (stop := 6) 1000 _ ?_
    refine Good.make (litS 35 1 #[(0, m.val)]) (litV 1) (litG 28 m.cl.toArray) (by kernel_rfl) (fun w1 hw h => make_lit (by kernel_rfl)) (fun g3 => ?_)
    refine Good.run (by kernel_rfl) (stop := 7) 1000 _ ?_
    refine Good.mutOp (L := bl y.1) (Φ' := fun (z : Option Addr × Nat) v => OwnR v w.heap.size 28 24 z.1 5 z.2 ([a, b, c, d, m].flatMap TV.cl) ∧ Five (a, b, c, d, m) (partsA T) (8 * K + 2) v) (G := fun (z : Option Addr × Nat) v => OwnR v w.heap.size 28 24 z.1 5 z.2 ([a, b, c, d].flatMap TV.cl ++ m.cl)) (appS 35 35 (.slice y.1 4 y.2) (litV 1 g3)) (fun w1 hw h => appendR_m (z := TV0.val) (bytes := 384) (by kernel_rfl) (by kernel_rfl) rfl (by decide) h.1.1.2.1 hw.size (litG_reads (n := 1) h.2 rfl) (List.all_eq_true.1 (show m.cl.all Value.oneCell' = true from rfl)) (by decide) (by decide)) (fun w1 h => fun b hb => ⟨(h.1.1.2.1.lt b hb).1, (h.1.1.2.1.blk b hb).2⟩) (fun z wa w1 e1 e2 h hG => ⟨by have e : [a, b, c, d, m].flatMap TV.cl = [a, b, c, d].flatMap TV.cl ++ m.cl := by { simp [List.flatMap_cons] }; rw [e]; exact hG, by rw [hp]; exact ⟨⟨_, rfl, (h.1.1.1.1.1.1.1.1.1.1.2.mono (by omega)).leftB e1 e2 (fun b' hb' hb => h.1.1.2.2.1 b' hb b' hb' rfl)⟩, ⟨_, rfl, (h.1.1.1.1.1.1.1.1.2.mono (by omega)).leftB e1 e2 (fun b' hb' hb => h.1.1.2.2.2.1 b' hb b' hb' rfl)⟩, ⟨_, rfl, (h.1.1.1.1.1.1.2.mono (by omega)).leftB e1 e2 (fun b' hb' hb => h.1.1.2.2.2.2.1 b' hb b' hb' rfl)⟩, ⟨_, rfl, (h.1.1.1.1.2.mono (by omega)).leftB e1 e2 (fun b' hb' hb => h.1.1.2.2.2.2.2 b' hb b' hb' rfl)⟩, ⟨_, rfl, (h.1.2.1.mono (by omega)).leftB e1 e2 (fun b' hb' hb => h.1.2.2 b' hb b' hb' rfl)⟩⟩⟩) (by kernel_rfl) (by kernel_rfl) (fun zz => ?_)
    obtain ⟨zA, zc⟩ := zz
    refine Good.pure_ (p := ∃ g, zA = some ⟨g, 0, none⟩) (fun w1 hw h => by obtain ⟨g, hg, _⟩ := h.1.cells (by decide); exact ⟨g, hg⟩) (by kernel_rfl) (fun hz => ?_)
    obtain ⟨gz, rfl⟩ := hz
    refine Good.run (by kernel_rfl) (stop := 1000) 1000 _ ?_
    refine Good.un (by kernel_rfl) ?_
    refine Good.run (by kernel_rfl) (stop := 1000) 1000 _ ?_
    refine Good.cond true (by kernel_rfl) ?_
    refine Good.run (by kernel_rfl) (stop := 1000) 1000 _ ?_
    refine Good.ask (idxS 35 (.slice (some ⟨gz, 0, none⟩) 5 zc) 0) (.pointer (some ⟨gz, 0 * 24, none⟩)) (by kernel_rfl) (fun w1 hw h => run_idxN (elem := 28) (by kernel_rfl) (by kernel_rfl) (by decide)) ?_
    refine Good.run (by kernel_rfl) (stop := 1000) 1000 _ ?_
    refine Good.ask (ldS 28 ⟨gz, 0 * 24, none⟩) (a.val) (by kernel_rfl) (fun w1 hw h => run_ldN (vs := a.cl) (by kernel_rfl) (by kernel_rfl) (h.1.range5 rfl)) ?_
    refine Good.run (by kernel_rfl) (stop := 1000) 1000 _ ?_
    cases hB0 : T0.ok
    ·
      refine Good.callv (fun w1 hw h => rvalidA_v (K := 8 * K + 2) hB0 (by obtain ⟨S, hS, hn⟩ := h.2.n0; rw [hT0] at hS; injection hS with hS; rw [hS]; exact hn.q) (by omega)) (by kernel_rfl) (fun u => ?_)
      refine Good.run (by kernel_rfl) (stop := 1000) 1000 _ ?_
      refine Good.runC (by kernel_rfl) (stop := 1000) 6000 _ ?_
      have he := bad (notall hT0 hB0)
      refine Good.ret (v := .tuple #[.slice none 0 0, .int .i64 5]) (by kernel_rfl) (fun w1 hw h => ⟨((none, 0), t, t, t, t, t), congrArg Ending.returned (out 5 he (by decide) _).symm, hw, fun w'' k1 k2 e => by rw [he] at e; cases e⟩)
    refine Good.callv (G := fun _ _ => True) (fun w1 hw h => rvalidA_v (K := 8 * K + 2) hB0 (by obtain ⟨S, hS, hn⟩ := h.2.n0; rw [hT0] at hS; injection hS with hS; rw [hS]; exact hn.q) (by omega)) (by kernel_rfl) (fun _ => ?_)
    refine Good.run (by kernel_rfl) (stop := 1000) 1000 _ ?_
    refine Good.weaken (fun _ h => h.1) ?_
    refine Good.cond false (by kernel_rfl) ?_
    refine Good.run (by kernel_rfl) (stop := 1000) 1000 _ ?_
    refine Good.cond true (by kernel_rfl) ?_
    refine Good.run (by kernel_rfl) (stop := 1000) 1000 _ ?_
    refine Good.ask (idxS 35 (.slice (some ⟨gz, 0, none⟩) 5 zc) 1) (.pointer (some ⟨gz, 1 * 24, none⟩)) (by kernel_rfl) (fun w1 hw h => run_idxN (elem := 28) (by kernel_rfl) (by kernel_rfl) (by decide)) ?_
    refine Good.run (by kernel_rfl) (stop := 1000) 1000 _ ?_
    refine Good.ask (ldS 28 ⟨gz, 1 * 24, none⟩) (b.val) (by kernel_rfl) (fun w1 hw h => run_ldN (vs := b.cl) (by kernel_rfl) (by kernel_rfl) (h.1.range5 rfl)) ?_
    refine Good.run (by kernel_rfl) (stop := 1000) 1000 _ ?_
    cases hB1 : T1.ok
    ·
      refine Good.callv (fun w1 hw h => rvalidA_v (K := 8 * K + 2) hB1 (by obtain ⟨S, hS, hn⟩ := h.2.n1; rw [hT1] at hS; injection hS with hS; rw [hS]; exact hn.q) (by omega)) (by kernel_rfl) (fun u => ?_)
      refine Good.run (by kernel_rfl) (stop := 1000) 1000 _ ?_
      refine Good.runC (by kernel_rfl) (stop := 1000) 6000 _ ?_
      have he := bad (notall hT1 hB1)
      refine Good.ret (v := .tuple #[.slice none 0 0, .int .i64 5]) (by kernel_rfl) (fun w1 hw h => ⟨((none, 0), t, t, t, t, t), congrArg Ending.returned (out 5 he (by decide) _).symm, hw, fun w'' k1 k2 e => by rw [he] at e; cases e⟩)
    refine Good.callv (G := fun _ _ => True) (fun w1 hw h => rvalidA_v (K := 8 * K + 2) hB1 (by obtain ⟨S, hS, hn⟩ := h.2.n1; rw [hT1] at hS; injection hS with hS; rw [hS]; exact hn.q) (by omega)) (by kernel_rfl) (fun _ => ?_)
    refine Good.run (by kernel_rfl) (stop := 1000) 1000 _ ?_
    refine Good.weaken (fun _ h => h.1) ?_
    refine Good.cond false (by kernel_rfl) ?_
    refine Good.run (by kernel_rfl) (stop := 1000) 1000 _ ?_
    refine Good.cond true (by kernel_rfl) ?_
    refine Good.run (by kernel_rfl) (stop := 1000) 1000 _ ?_
    refine Good.ask (idxS 35 (.slice (some ⟨gz, 0, none⟩) 5 zc) 2) (.pointer (some ⟨gz, 2 * 24, none⟩)) (by kernel_rfl) (fun w1 hw h => run_idxN (elem := 28) (by kernel_rfl) (by kernel_rfl) (by decide)) ?_
    refine Good.run (by kernel_rfl) (stop := 1000) 1000 _ ?_
    refine Good.ask (ldS 28 ⟨gz, 2 * 24, none⟩) (c.val) (by kernel_rfl) (fun w1 hw h => run_ldN (vs := c.cl) (by kernel_rfl) (by kernel_rfl) (h.1.range5 rfl)) ?_
    refine Good.run (by kernel_rfl) (stop := 1000) 1000 _ ?_
    cases hB2 : T2.ok
    ·
      refine Good.callv (fun w1 hw h => rvalidA_v (K := 8 * K + 2) hB2 (by obtain ⟨S, hS, hn⟩ := h.2.n2; rw [hT2] at hS; injection hS with hS; rw [hS]; exact hn.q) (by omega)) (by kernel_rfl) (fun u => ?_)
      refine Good.run (by kernel_rfl) (stop := 1000) 1000 _ ?_
      refine Good.runC (by kernel_rfl) (stop := 1000) 6000 _ ?_
      have he := bad (notall hT2 hB2)
      refine Good.ret (v := .tuple #[.slice none 0 0, .int .i64 5]) (by kernel_rfl) (fun w1 hw h => ⟨((none, 0), t, t, t, t, t), congrArg Ending.returned (out 5 he (by decide) _).symm, hw, fun w'' k1 k2 e => by rw [he] at e; cases e⟩)
    refine Good.callv (G := fun _ _ => True) (fun w1 hw h => rvalidA_v (K := 8 * K + 2) hB2 (by obtain ⟨S, hS, hn⟩ := h.2.n2; rw [hT2] at hS; injection hS with hS; rw [hS]; exact hn.q) (by omega)) (by kernel_rfl) (fun _ => ?_)
    refine Good.run (by kernel_rfl) (stop := 1000) 1000 _ ?_
    refine Good.weaken (fun _ h => h.1) ?_
    refine Good.cond false (by kernel_rfl) ?_
    refine Good.run (by kernel_rfl) (stop := 1000) 1000 _ ?_
    refine Good.cond true (by kernel_rfl) ?_
    refine Good.run (by kernel_rfl) (stop := 1000) 1000 _ ?_
    refine Good.ask (idxS 35 (.slice (some ⟨gz, 0, none⟩) 5 zc) 3) (.pointer (some ⟨gz, 3 * 24, none⟩)) (by kernel_rfl) (fun w1 hw h => run_idxN (elem := 28) (by kernel_rfl) (by kernel_rfl) (by decide)) ?_
    refine Good.run (by kernel_rfl) (stop := 1000) 1000 _ ?_
    refine Good.ask (ldS 28 ⟨gz, 3 * 24, none⟩) (d.val) (by kernel_rfl) (fun w1 hw h => run_ldN (vs := d.cl) (by kernel_rfl) (by kernel_rfl) (h.1.range5 rfl)) ?_
    refine Good.run (by kernel_rfl) (stop := 1000) 1000 _ ?_
    cases hB3 : T3.ok
    ·
      refine Good.callv (fun w1 hw h => rvalidA_v (K := 8 * K + 2) hB3 (by obtain ⟨S, hS, hn⟩ := h.2.n3; rw [hT3] at hS; injection hS with hS; rw [hS]; exact hn.q) (by omega)) (by kernel_rfl) (fun u => ?_)
      refine Good.run (by kernel_rfl) (stop := 1000) 1000 _ ?_
      refine Good.runC (by kernel_rfl) (stop := 1000) 6000 _ ?_
      have he := bad (notall hT3 hB3)
      refine Good.ret (v := .tuple #[.slice none 0 0, .int .i64 5]) (by kernel_rfl) (fun w1 hw h => ⟨((none, 0), t, t, t, t, t), congrArg Ending.returned (out 5 he (by decide) _).symm, hw, fun w'' k1 k2 e => by rw [he] at e; cases e⟩)
    refine Good.callv (G := fun _ _ => True) (fun w1 hw h => rvalidA_v (K := 8 * K + 2) hB3 (by obtain ⟨S, hS, hn⟩ := h.2.n3; rw [hT3] at hS; injection hS with hS; rw [hS]; exact hn.q) (by omega)) (by kernel_rfl) (fun _ => ?_)
    refine Good.run (by kernel_rfl) (stop := 1000) 1000 _ ?_
    refine Good.weaken (fun _ h => h.1) ?_
    refine Good.cond false (by kernel_rfl) ?_
    refine Good.run (by kernel_rfl) (stop := 1000) 1000 _ ?_
    refine Good.cond true (by kernel_rfl) ?_
    refine Good.run (by kernel_rfl) (stop := 1000) 1000 _ ?_
    refine Good.ask (idxS 35 (.slice (some ⟨gz, 0, none⟩) 5 zc) 4) (.pointer (some ⟨gz, 4 * 24, none⟩)) (by kernel_rfl) (fun w1 hw h => run_idxN (elem := 28) (by kernel_rfl) (by kernel_rfl) (by decide)) ?_
    refine Good.run (by kernel_rfl) (stop := 1000) 1000 _ ?_
    refine Good.ask (ldS 28 ⟨gz, 4 * 24, none⟩) (m.val) (by kernel_rfl) (fun w1 hw h => run_ldN (vs := m.cl) (by kernel_rfl) (by kernel_rfl) (h.1.range5 rfl)) ?_
    refine Good.run (by kernel_rfl) (stop := 1000) 1000 _ ?_
    cases hB4 : T4.ok
    ·
      refine Good.callv (fun w1 hw h => rvalidA_v (K := 8 * K + 2) hB4 (by obtain ⟨S, hS, hn⟩ := h.2.n4; rw [hT4] at hS; injection hS with hS; rw [hS]; exact hn.q) (by omega)) (by kernel_rfl) (fun u => ?_)
      refine Good.run (by kernel_rfl) (stop := 1000) 1000 _ ?_
      refine Good.runC (by kernel_rfl) (stop := 1000) 6000 _ ?_
      have he := bad (notall hT4 hB4)
      refine Good.ret (v := .tuple #[.slice none 0 0, .int .i64 5]) (by kernel_rfl) (fun w1 hw h => ⟨((none, 0), t, t, t, t, t), congrArg Ending.returned (out 5 he (by decide) _).symm, hw, fun w'' k1 k2 e => by rw [he] at e; cases e⟩)
    refine Good.callv (G := fun _ _ => True) (fun w1 hw h => rvalidA_v (K := 8 * K + 2) hB4 (by obtain ⟨S, hS, hn⟩ := h.2.n4; rw [hT4] at hS; injection hS with hS; rw [hS]; exact hn.q) (by omega)) (by kernel_rfl) (fun _ => ?_)
    refine Good.run (by kernel_rfl) (stop := 1000) 1000 _ ?_
    refine Good.weaken (fun _ h => h.1) ?_
    refine Good.cond false (by kernel_rfl) ?_
    refine Good.run (by kernel_rfl) (stop := 1000) 1000 _ ?_
    refine Good.cond false (by kernel_rfl) ?_
    refine Good.run (by kernel_rfl) (stop := 1000) 1000 _ ?_
    have hall : (partsA T).all Aff.ok = true := by
      have h5 := partsA_len (T := T)
      match hm : partsA T, h5 with
      | [a, b, c, d, e], _ =>
        rw [hm] at hT0 hT1 hT2 hT3 hT4
        simp only [List.getElem?_cons_zero, List.getElem?_cons_succ, Option.some.injEq] at hT0 hT1 hT2 hT3 hT4
        subst hT0; subst hT1; subst hT2; subst hT3; subst hT4
        simp [hB0, hB1, hB2, hB3, hB4]
    have he : decE T = 0 := by unfold decE; rw [if_neg (by rw [hB]; simp), if_neg hd0, if_neg (by rw [hall]; simp)]
    refine Good.ret (v := .tuple #[.slice (some ⟨gz, 0, none⟩) 5 zc, .int .i64 0]) (by kernel_rfl) (fun w1 hw h => ⟨((some ⟨gz, 0, none⟩, zc), a, b, c, d, m), by unfold rdecV; rw [he]; rfl, hw, fun w'' k1 k2 _ => h w'' k1 k2⟩)
end

def neP (t : TypeId) (x y : Operand) (u v : Value) : Sem Next := (do eqGuard .neq t x y u v; binOp .neq t u v) >>= fun v => pure (.value v)
theorem run_neP {x y : Operand} {a b c d : Int} {w : World} : (neP 47 x y (pt a b) (pt c d)).run Tryz.prog w = .ok (.value (.bool (!(a == c && b == d)))) w := by
  have h3 : Tryz.prog.eqGuardType Tryz.prog.depth 47 = false := by kernel_rfl
  have he := run_eqP (x := x) (y := y) (a := a) (b := b) (c := c) (d := d) (w := w)
  simp only [eqP, pt, Sem.run_bind, run_eqGuard_agg w .eql _ x y _ _ h3, Result.andThen_ok, run_eql_struct, Sem.run_pure] at he
  simp only [neP, pt, Sem.run_bind, run_eqGuard_agg w .neq _ x y _ _ h3, Result.andThen_ok, run_neq_struct, Sem.run_pure]
  generalize (Op.equalIn 10000 47 (.agg #[.int .i64 a, .int .i64 b]) (.agg #[.int .i64 c, .int .i64 d])).run Tryz.prog w = r at he ⊢
  cases r with
  | ok x w' => simp only [Result.andThen_ok, Sem.run_pure, Result.ok.injEq, Next.value.injEq, Value.bool.injEq] at he ⊢; exact ⟨by rw [he.1], he.2⟩
  | _ => cases he
section
variable {w : World} {t u : TV} {T U : Aff} {K K1 K2 : Nat} {r s : RV} {X Y : Int} {a b : Tri}
set_option maxRecDepth 100000 in
set_option maxHeartbeats 1000000 in
theorem rminus_m {X Y U V : Int} (hX : -1048576 ≤ X ∧ X ≤ 1048576) (hY : -1048576 ≤ Y ∧ Y ≤ 1048576) (hU : -1048576 ≤ U ∧ U ≤ 1048576) (hV : -1048576 ≤ V ∧ V ≤ 1048576) : Calls Tryz.prog 70 #[pt X Y, pt U V] w (CallPost w (fun _ : Unit => pt (X - U) (Y - V)) fun _ _ => True) := by
  refine Good.enter Tryz.func70 rfl ?_
  refine Good.run (by kernel_rfl) (stop := 1000) 1000 _ ?_
  refine Good.ret (v := pt (IntKind.i64.wrap (X - U)) (IntKind.i64.wrap (Y - V))) (by kernel_rfl) (fun w1 hw h => ⟨(), by rw [IntWalk.i64_in _ (by omega), IntWalk.i64_in _ (by omega)], hw, fun _ _ _ => trivial⟩)
theorem mul_bd {a b A B : Int} (ha : -A ≤ a ∧ a ≤ A) (hb : -B ≤ b ∧ b ≤ B) : -(A * B) ≤ a * b ∧ a * b ≤ A * B := by
  have h1 : a.natAbs * b.natAbs ≤ A.natAbs * B.natAbs := Nat.mul_le_mul (by omega) (by omega)
  rw [← Int.natAbs_mul, ← Int.natAbs_mul] at h1
  have h2 : 0 ≤ A * B := Int.mul_nonneg (by omega) (by omega)
  omega
def b21 (x : Int) : Prop := -2097152 ≤ x ∧ x ≤ 2097152
theorem wrap_det {a b c d : Int} (ha : b21 a) (hb : b21 b) (hc : b21 c) (hd : b21 d) : IntKind.i64.wrap (IntKind.i64.wrap (a * b) - IntKind.i64.wrap (c * d)) = a * b - c * d := by
  have h1 := mul_bd (A := 2097152) (B := 2097152) ha hb
  have h2 := mul_bd (A := 2097152) (B := 2097152) hc hd
  rw [IntWalk.i64_in (a * b) (by omega), IntWalk.i64_in (c * d) (by omega), IntWalk.i64_in _ (by omega)]
theorem det_rng {a b c d : Int} (ha : b21 a) (hb : b21 b) (hc : b21 c) (hd : b21 d) : -9223372036854775808 ≤ a * b - c * d ∧ a * b - c * d ≤ 9223372036854775807 := by
  have h1 := mul_bd (A := 2097152) (B := 2097152) ha hb
  have h2 := mul_bd (A := 2097152) (B := 2097152) hc hd
  omega
set_option maxRecDepth 100000 in
set_option maxHeartbeats 1000000 in
theorem rlinear_A {a b c d p q D : Int} (ha : b21 a) (hb : b21 b) (hc : b21 c) (hd : b21 d) (hp : b21 p) (hq : b21 q) (hD : -9223372036854775808 ≤ D ∧ D ≤ 9223372036854775807) (h0 : D ≠ 0) :
    Calls Tryz.prog 71 #[pt a b, pt c d, .int .i64 p, .int .i64 q, .int .i64 D] w (CallPost w (fun v : RV × RV => .tuple #[v.1.val, v.2.val]) fun v u => IsQN v.1 (Rat.divInt (p * d - q * b) D) 2 u ∧ IsQN v.2 (Rat.divInt (q * a - p * c) D) 2 u) := by
  have e1 := wrap_det hp hd hq hb
  have e2 := wrap_det hq ha hp hc
  have r1 := det_rng hp hd hq hb
  have r2 := det_rng hq ha hp hc
  refine Good.enter Tryz.func71 rfl ?_
  refine Good.run (by kernel_rfl) (stop := 1000) 1000 _ ?_
  refine Good.callv (fun w1 hw h => rqfromInts_m (x := IntKind.i64.wrap (IntKind.i64.wrap (p * d) - IntKind.i64.wrap (q * b))) (y := D) (by rw [e1]; exact r1) hD) (by kernel_rfl) (fun x => ?_)
  refine Good.run (by kernel_rfl) (stop := 1000) 1000 _ ?_
  refine Good.callv (fun w1 hw h => rqfromInts_m (x := IntKind.i64.wrap (IntKind.i64.wrap (q * a) - IntKind.i64.wrap (p * c))) (y := D) (by rw [e2]; exact r2) hD) (by kernel_rfl) (fun y => ?_)
  refine Good.run (by kernel_rfl) (stop := 1000) 1000 _ ?_
  refine Good.ret (v := .tuple #[x.val, y.val]) (by kernel_rfl) (fun w1 hw h => ⟨(x, y), rfl, hw, fun w'' k1 k2 => ⟨((h w'' k1 k2).1.2.n h0).cast (by rw [e1]), ((h w'' k1 k2).2.n h0).cast (by rw [e2])⟩⟩)
theorem triF_ref (h0 : detI a ≠ 0) : triF a b = ⟨Rat.divInt ((b.x1 - b.x0) * (a.y2 - a.y0) - (b.x2 - b.x0) * (a.y1 - a.y0)) (detI a), Rat.divInt ((b.y1 - b.y0) * (a.y2 - a.y0) - (b.y2 - b.y0) * (a.y1 - a.y0)) (detI a),
    Rat.divInt ((b.x2 - b.x0) * (a.x1 - a.x0) - (b.x1 - b.x0) * (a.x2 - a.x0)) (detI a), Rat.divInt ((b.y2 - b.y0) * (a.x1 - a.x0) - (b.y1 - b.y0) * (a.x2 - a.x0)) (detI a),
    (b.x0 : Rat) - (Rat.divInt ((b.x1 - b.x0) * (a.y2 - a.y0) - (b.x2 - b.x0) * (a.y1 - a.y0)) (detI a) * (a.x0 : Rat) + Rat.divInt ((b.x2 - b.x0) * (a.x1 - a.x0) - (b.x1 - b.x0) * (a.x2 - a.x0)) (detI a) * (a.y0 : Rat)),
    (b.y0 : Rat) - (Rat.divInt ((b.y1 - b.y0) * (a.y2 - a.y0) - (b.y2 - b.y0) * (a.y1 - a.y0)) (detI a) * (a.x0 : Rat) + Rat.divInt ((b.y2 - b.y0) * (a.x1 - a.x0) - (b.y1 - b.y0) * (a.x2 - a.x0)) (detI a) * (a.y0 : Rat))⟩ := by
  rw [triF_eq]
  simp only [Rat.divInt_eq_div, Aff.comp, Aff.inv, det_frame, Rat.div_def]
  generalize (detI a : Rat)⁻¹ = i
  simp only [Aff.app, frameT, q0, Rat.intCast_sub, Rat.intCast_mul]
  refine aff_ext ?_ ?_ ?_ ?_ ?_ ?_ <;> simp only <;> grind
set_option maxRecDepth 100000 in
set_option maxHeartbeats 8000000 in
theorem rfromTri_m : Calls Tryz.prog 29 #[a.val, b.val] w (CallPost w (fun r : TV => .tuple #[r.val, .int .i64 (triE a b)]) fun r u => OutA r (triE a b) (triF a b) 8 u) := by
  have bad : (a.ok && b.ok) = false → triE a b = 6 := fun h => by unfold triE; rw [if_pos h]
  refine Good.enter Tryz.func29 rfl ?_
  refine Good.run (by kernel_rfl) (stop := 1000) 1000 _ ?_
  refine Good.un (by kernel_rfl) ?_
  refine Good.run (by kernel_rfl) (stop := 1000) 1000 _ ?_
  refine Good.cond true (by kernel_rfl) ?_
  refine Good.run (by kernel_rfl) (stop := 1000) 1000 _ ?_
  cases ha0 : validP a.x0 a.y0
  ·
    refine Good.callv (fun w1 hw h => rvalid_v ha0) (by kernel_rfl) (fun u => ?_)
    refine Good.run (by kernel_rfl) (stop := 1000) 1000 _ ?_
    refine Good.runC (by kernel_rfl) (stop := 1000) 6000 _ ?_
    refine Good.ret (v := .tuple #[TV0.val, .int .i64 6]) (by kernel_rfl) (fun w1 hw h => ⟨TV0, by rw [bad (by unfold Tri.ok; rw [ha0]; simp)], hw, fun w'' k1 k2 => outA0 (by rw [bad (by unfold Tri.ok; rw [ha0]; simp)]; decide)⟩)
  refine Good.callv (fun w1 hw h => rvalid_v ha0) (by kernel_rfl) (fun u => ?_)
  refine Good.run (by kernel_rfl) (stop := 1000) 1000 _ ?_
  cases hb0 : validP b.x0 b.y0
  ·
    refine Good.callv (fun w1 hw h => rvalid_v hb0) (by kernel_rfl) (fun u => ?_)
    refine Good.run (by kernel_rfl) (stop := 1000) 1000 _ ?_
    refine Good.runC (by kernel_rfl) (stop := 1000) 6000 _ ?_
    refine Good.ret (v := .tuple #[TV0.val, .int .i64 6]) (by kernel_rfl) (fun w1 hw h => ⟨TV0, by rw [bad (by unfold Tri.ok; rw [hb0]; simp)], hw, fun w'' k1 k2 => outA0 (by rw [bad (by unfold Tri.ok; rw [hb0]; simp)]; decide)⟩)
  refine Good.callv (fun w1 hw h => rvalid_v hb0) (by kernel_rfl) (fun u => ?_)
  refine Good.run (by kernel_rfl) (stop := 1000) 1000 _ ?_
  refine Good.cond false (by kernel_rfl) ?_
  refine Good.run (by kernel_rfl) (stop := 1000) 1000 _ ?_
  refine Good.cond true (by kernel_rfl) ?_
  refine Good.run (by kernel_rfl) (stop := 1000) 1000 _ ?_
  cases ha1 : validP a.x1 a.y1
  ·
    refine Good.callv (fun w1 hw h => rvalid_v ha1) (by kernel_rfl) (fun u => ?_)
    refine Good.run (by kernel_rfl) (stop := 1000) 1000 _ ?_
    refine Good.runC (by kernel_rfl) (stop := 1000) 6000 _ ?_
    refine Good.ret (v := .tuple #[TV0.val, .int .i64 6]) (by kernel_rfl) (fun w1 hw h => ⟨TV0, by rw [bad (by unfold Tri.ok; rw [ha1]; simp)], hw, fun w'' k1 k2 => outA0 (by rw [bad (by unfold Tri.ok; rw [ha1]; simp)]; decide)⟩)
  refine Good.callv (fun w1 hw h => rvalid_v ha1) (by kernel_rfl) (fun u => ?_)
  refine Good.run (by kernel_rfl) (stop := 1000) 1000 _ ?_
  cases hb1 : validP b.x1 b.y1
  ·
    refine Good.callv (fun w1 hw h => rvalid_v hb1) (by kernel_rfl) (fun u => ?_)
    refine Good.run (by kernel_rfl) (stop := 1000) 1000 _ ?_
    refine Good.runC (by kernel_rfl) (stop := 1000) 6000 _ ?_
    refine Good.ret (v := .tuple #[TV0.val, .int .i64 6]) (by kernel_rfl) (fun w1 hw h => ⟨TV0, by rw [bad (by unfold Tri.ok; rw [hb1]; simp)], hw, fun w'' k1 k2 => outA0 (by rw [bad (by unfold Tri.ok; rw [hb1]; simp)]; decide)⟩)
  refine Good.callv (fun w1 hw h => rvalid_v hb1) (by kernel_rfl) (fun u => ?_)
  refine Good.run (by kernel_rfl) (stop := 1000) 1000 _ ?_
  refine Good.cond false (by kernel_rfl) ?_
  refine Good.run (by kernel_rfl) (stop := 1000) 1000 _ ?_
  refine Good.cond true (by kernel_rfl) ?_
  refine Good.run (by kernel_rfl) (stop := 1000) 1000 _ ?_
  cases ha2 : validP a.x2 a.y2
  ·
    refine Good.callv (fun w1 hw h => rvalid_v ha2) (by kernel_rfl) (fun u => ?_)
    refine Good.run (by kernel_rfl) (stop := 1000) 1000 _ ?_
    refine Good.runC (by kernel_rfl) (stop := 1000) 6000 _ ?_
    refine Good.ret (v := .tuple #[TV0.val, .int .i64 6]) (by kernel_rfl) (fun w1 hw h => ⟨TV0, by rw [bad (by unfold Tri.ok; rw [ha2]; simp)], hw, fun w'' k1 k2 => outA0 (by rw [bad (by unfold Tri.ok; rw [ha2]; simp)]; decide)⟩)
  refine Good.callv (fun w1 hw h => rvalid_v ha2) (by kernel_rfl) (fun u => ?_)
  refine Good.run (by kernel_rfl) (stop := 1000) 1000 _ ?_
  cases hb2 : validP b.x2 b.y2
  ·
    refine Good.callv (fun w1 hw h => rvalid_v hb2) (by kernel_rfl) (fun u => ?_)
    refine Good.run (by kernel_rfl) (stop := 1000) 1000 _ ?_
    refine Good.runC (by kernel_rfl) (stop := 1000) 6000 _ ?_
    refine Good.ret (v := .tuple #[TV0.val, .int .i64 6]) (by kernel_rfl) (fun w1 hw h => ⟨TV0, by rw [bad (by unfold Tri.ok; rw [hb2]; simp)], hw, fun w'' k1 k2 => outA0 (by rw [bad (by unfold Tri.ok; rw [hb2]; simp)]; decide)⟩)
  refine Good.callv (fun w1 hw h => rvalid_v hb2) (by kernel_rfl) (fun u => ?_)
  refine Good.run (by kernel_rfl) (stop := 1000) 1000 _ ?_
  refine Good.cond false (by kernel_rfl) ?_
  refine Good.run (by kernel_rfl) (stop := 1000) 1000 _ ?_
  refine Good.cond false (by kernel_rfl) ?_
  refine Good.run (by kernel_rfl) (stop := 1000) 1000 _ ?_
  have hoa : a.ok = true := by unfold Tri.ok; rw [ha0, ha1, ha2]; rfl
  have hob : b.ok = true := by unfold Tri.ok; rw [hb0, hb1, hb2]; rfl
  have A := Tri.bd hoa
  have B := Tri.bd hob
  have a1 : b21 (a.x1 - a.x0) := by unfold b21; omega
  have a2 : b21 (a.y1 - a.y0) := by unfold b21; omega
  have a3 : b21 (a.x2 - a.x0) := by unfold b21; omega
  have a4 : b21 (a.y2 - a.y0) := by unfold b21; omega
  have b1 : b21 (b.x1 - b.x0) := by unfold b21; omega
  have b2 : b21 (b.y1 - b.y0) := by unfold b21; omega
  have b3 : b21 (b.x2 - b.x0) := by unfold b21; omega
  have b4 : b21 (b.y2 - b.y0) := by unfold b21; omega
  have eD : IntKind.i64.wrap (IntKind.i64.wrap ((a.x1 - a.x0) * (a.y2 - a.y0)) - IntKind.i64.wrap ((a.y1 - a.y0) * (a.x2 - a.x0))) = detI a := wrap_det a1 a4 a2 a3
  have rD : -9223372036854775808 ≤ detI a ∧ detI a ≤ 9223372036854775807 := det_rng a1 a4 a2 a3
  have hE := triE_eq a b
  rw [if_neg (by rw [hoa, hob]; simp)] at hE
  refine Good.callv (fun w1 hw h => rminus_m (X := a.x1) (Y := a.y1) (U := a.x0) (V := a.y0) (by omega) (by omega) (by omega) (by omega)) (by kernel_rfl) (fun u => ?_)
  refine Good.run (by kernel_rfl) (stop := 1000) 1000 _ ?_
  refine Good.callv (fun w1 hw h => rminus_m (X := a.x2) (Y := a.y2) (U := a.x0) (V := a.y0) (by omega) (by omega) (by omega) (by omega)) (by kernel_rfl) (fun u => ?_)
  refine Good.run (by kernel_rfl) (stop := 1000) 1000 _ ?_
  by_cases h0 : detI a = 0
  ·
    refine Good.condr (IntKind.i64.wrap (IntKind.i64.wrap ((a.x1 - a.x0) * (a.y2 - a.y0)) - IntKind.i64.wrap ((a.y1 - a.y0) * (a.x2 - a.x0))) == 0) true (by kernel_rfl) (by rw [eD, h0]; rfl) ?_
    refine Good.run (by kernel_rfl) (stop := 1000) 1000 _ ?_
    rw [if_pos h0] at hE
    refine Good.ret (v := .tuple #[TV0.val, .int .i64 9]) (by kernel_rfl) (fun w1 hw h => ⟨TV0, by rw [hE], hw, fun w'' k1 k2 => outA0 (by rw [hE]; decide)⟩)
  rw [if_neg h0] at hE
  refine Good.condr (IntKind.i64.wrap (IntKind.i64.wrap ((a.x1 - a.x0) * (a.y2 - a.y0)) - IntKind.i64.wrap ((a.y1 - a.y0) * (a.x2 - a.x0))) == 0) false (by kernel_rfl) (by rw [eD]; simpa using h0) ?_
  refine Good.run (by kernel_rfl) (stop := 1000) 1000 _ ?_
  refine Good.slot 9 (.int .i64 (IntKind.i64.wrap (IntKind.i64.wrap ((a.x1 - a.x0) * (a.y2 - a.y0)) - IntKind.i64.wrap ((a.y1 - a.y0) * (a.x2 - a.x0))))) (.int .i64 (detI a)) (by kernel_rfl) (by rw [eD]) ?_
  refine Good.callv (fun w1 hw h => rminus_m (X := b.x1) (Y := b.y1) (U := b.x0) (V := b.y0) (by omega) (by omega) (by omega) (by omega)) (by kernel_rfl) (fun u => ?_)
  refine Good.run (by kernel_rfl) (stop := 1000) 1000 _ ?_
  refine Good.callv (fun w1 hw h => rminus_m (X := b.x2) (Y := b.y2) (U := b.x0) (V := b.y0) (by omega) (by omega) (by omega) (by omega)) (by kernel_rfl) (fun u => ?_)
  refine Good.run (by kernel_rfl) (stop := 1000) 1000 _ ?_
  refine Good.callv (fun w1 hw h => rlinear_A (p := b.x1 - b.x0) (q := b.x2 - b.x0) (D := detI a) a1 a2 a3 a4 b1 b3 rD h0) (by kernel_rfl) (fun l => ?_)
  refine Good.run (by kernel_rfl) (stop := 1000) 1000 _ ?_
  refine Good.callv (fun w1 hw h => rlinear_A (p := b.y1 - b.y0) (q := b.y2 - b.y0) (D := detI a) a1 a2 a3 a4 b2 b4 rD h0) (by kernel_rfl) (fun m => ?_)
  refine Good.run (by kernel_rfl) (stop := 1000) 1000 _ ?_
  refine Good.callv (fun w1 hw h => rqfromInt_m a.x0 w1 (by omega) (by omega)) (by kernel_rfl) (fun x => ?_)
  refine Good.run (by kernel_rfl) (stop := 1000) 1000 _ ?_
  refine Good.callv (fun w1 hw h => rqfromInt_m a.y0 w1 (by omega) (by omega)) (by kernel_rfl) (fun y => ?_)
  refine Good.run (by kernel_rfl) (stop := 1000) 1000 _ ?_
  refine Good.callv (fun w1 hw h => rqfromInt_m b.x0 w1 (by omega) (by omega)) (by kernel_rfl) (fun e => ?_)
  refine Good.run (by kernel_rfl) (stop := 1000) 1000 _ ?_
  refine Good.callv (fun w1 hw h => rdot_A h.1.1.1.1.2.1.q h.1.1.2.q h.1.1.1.1.2.2.q h.1.2.q (by decide)) (by kernel_rfl) (fun z => ?_)
  refine Good.run (by kernel_rfl) (stop := 1000) 1000 _ ?_
  refine Good.callv (fun w1 hw h => rqsub_m h.1.2.q h.2.q (by decide)) (by kernel_rfl) (fun ee => ?_)
  refine Good.run (by kernel_rfl) (stop := 1000) 1000 _ ?_
  refine Good.callv (fun w1 hw h => rqfromInt_m b.y0 w1 (by omega) (by omega)) (by kernel_rfl) (fun f => ?_)
  refine Good.run (by kernel_rfl) (stop := 1000) 1000 _ ?_
  refine Good.callv (fun w1 hw h => rdot_A h.1.1.1.1.1.1.2.1.q h.1.1.1.1.1.2.q h.1.1.1.1.1.1.2.2.q h.1.1.1.1.2.q (by decide)) (by kernel_rfl) (fun zz => ?_)
  refine Good.run (by kernel_rfl) (stop := 1000) 1000 _ ?_
  refine Good.callv (fun w1 hw h => rqsub_m h.1.2.q h.2.q (by decide)) (by kernel_rfl) (fun ff => ?_)
  refine Good.run (by kernel_rfl) (stop := 1000) 1000 _ ?_
  have hok : (triF a b).ok = true := by rw [triF_eq]; exact comp_ok hoa hob h0
  refine Good.ret (v := .tuple #[(TV.mk l.1 m.1 l.2 m.2 ee ff).val, .int .i64 0]) (by kernel_rfl) (fun w1 hw h => ⟨⟨l.1, m.1, l.2, m.2, ee, ff⟩, by rw [hE], hw, fun w'' k1 k2 => outAn hE (IsAN.of_ok (K := 12) (by rw [triF_ref h0]; exact ⟨(h w'' k1 k2).1.1.1.1.1.1.1.1.1.2.1.mono (by decide), (h w'' k1 k2).1.1.1.1.1.1.1.1.2.1.mono (by decide), (h w'' k1 k2).1.1.1.1.1.1.1.1.1.2.2.mono (by decide), (h w'' k1 k2).1.1.1.1.1.1.1.1.2.2.mono (by decide), (h w'' k1 k2).1.1.1.2.mono (by decide), (h w'' k1 k2).2.mono (by decide)⟩) hok)⟩)

set_option maxRecDepth 100000 in
set_option maxHeartbeats 4000000 in
theorem sameAll_m {g g' c c' : Nat} {t0 t1 t2 t3 t4 u0 u1 u2 u3 u4 : TV} {Ts : List Aff} {B : Nat} {ty : TypeId} (h1 : BoxAt w g ([t0, t1, t2, t3, t4].flatMap TV.cl)) (h2 : OwnR w B ty 24 (some ⟨g', 0, none⟩) 5 c' ([u0, u1, u2, u3, u4].flatMap TV.cl)) (f1 : Five (t0, t1, t2, t3, t4) Ts K1 w) (f2 : Five (u0, u1, u2, u3, u4) Ts K2 w) :
    Calls Tryz.prog 24 #[.slice (some ⟨g, 0, none⟩) 5 c, .slice (some ⟨g', 0, none⟩) 5 c'] w (CallPost w (fun _ : Unit => .bool true) fun _ _ => True) := by
  have pair : ∀ {k : Nat} {t u : TV} {S S' : Aff} {v : World}, Ts[k]? = some S → Ts[k]? = some S' → IsAN t S K1 v → IsAN u S' K2 v → Calls Tryz.prog 13 #[t.val, u.val] v (CallPost v (fun _ : Unit => .bool true) fun _ _ => True) := fun e1 e2 k1 k2 => by
    rw [e1] at e2; injection e2 with e2; subst e2; exact fields_e k1 k2
  obtain ⟨⟨A0, p0, i0⟩, ⟨A1, p1, i1⟩, ⟨A2, p2, i2⟩, ⟨A3, p3, i3⟩, ⟨A4, p4, i4⟩⟩ := f1
  obtain ⟨⟨B0, q0, j0⟩, ⟨B1, q1, j1⟩, ⟨B2, q2, j2⟩, ⟨B3, q3, j3⟩, ⟨B4, q4, j4⟩⟩ := f2
  refine Good.enter Tryz.func24 rfl ?_
  refine Good.run (by kernel_rfl) (stop := 1000) 1000 _ ?_
  refine Good.cond false (by kernel_rfl) ?_
  refine Good.run (by kernel_rfl) (stop := 1000) 1000 _ ?_
  refine Good.un (by kernel_rfl) ?_
  refine Good.run (by kernel_rfl) (stop := 1000) 1000 _ ?_
  refine Good.cond true (by kernel_rfl) ?_
  refine Good.run (by kernel_rfl) (stop := 1000) 1000 _ ?_
  refine Good.askAt 2 (idxS 35 (.slice (some ⟨g, 0, none⟩) 5 c) 0) (.pointer (some ⟨g, 0 * 24, none⟩)) (by kernel_rfl) (fun w1 hw h => run_idxN (elem := 28) (by kernel_rfl) (by kernel_rfl) (by decide)) ?_
  refine Good.run (by kernel_rfl) (stop := 1000) 1000 _ ?_
  refine Good.askAt 3 (ldS 28 ⟨g, 0 * 24, none⟩) (t0.val) (by kernel_rfl) (fun w1 hw h => run_ldN (vs := t0.cl) (by kernel_rfl) (by kernel_rfl) (flat5 (h1.below hw) rfl)) ?_
  refine Good.run (by kernel_rfl) (stop := 1000) 1000 _ ?_
  refine Good.askAt 6 (idxS 35 (.slice (some ⟨g', 0, none⟩) 5 c') 0) (.pointer (some ⟨g', 0 * 24, none⟩)) (by kernel_rfl) (fun w1 hw h => run_idxN (elem := 28) (by kernel_rfl) (by kernel_rfl) (by decide)) ?_
  refine Good.run (by kernel_rfl) (stop := 1000) 1000 _ ?_
  refine Good.askAt 7 (ldS 28 ⟨g', 0 * 24, none⟩) (u0.val) (by kernel_rfl) (fun w1 hw h => run_ldN (vs := u0.cl) (by kernel_rfl) (by kernel_rfl) ((h2.below hw).range5 rfl)) ?_
  refine Good.run (by kernel_rfl) (stop := 1000) 1000 _ ?_
  refine Good.callv (fun w1 hw h => pair p0 q0 (i0.below hw) (j0.below hw)) (by kernel_rfl) (fun z => ?_)
  refine Good.run (by kernel_rfl) (stop := 1000) 1000 _ ?_
  refine Good.cond false (by kernel_rfl) ?_
  refine Good.run (by kernel_rfl) (stop := 1000) 1000 _ ?_
  refine Good.cond true (by kernel_rfl) ?_
  refine Good.run (by kernel_rfl) (stop := 1000) 1000 _ ?_
  refine Good.askAt 2 (idxS 35 (.slice (some ⟨g, 0, none⟩) 5 c) 1) (.pointer (some ⟨g, 1 * 24, none⟩)) (by kernel_rfl) (fun w1 hw h => run_idxN (elem := 28) (by kernel_rfl) (by kernel_rfl) (by decide)) ?_
  refine Good.run (by kernel_rfl) (stop := 1000) 1000 _ ?_
  refine Good.askAt 3 (ldS 28 ⟨g, 1 * 24, none⟩) (t1.val) (by kernel_rfl) (fun w1 hw h => run_ldN (vs := t1.cl) (by kernel_rfl) (by kernel_rfl) (flat5 (h1.below hw) rfl)) ?_
  refine Good.run (by kernel_rfl) (stop := 1000) 1000 _ ?_
  refine Good.askAt 6 (idxS 35 (.slice (some ⟨g', 0, none⟩) 5 c') 1) (.pointer (some ⟨g', 1 * 24, none⟩)) (by kernel_rfl) (fun w1 hw h => run_idxN (elem := 28) (by kernel_rfl) (by kernel_rfl) (by decide)) ?_
  refine Good.run (by kernel_rfl) (stop := 1000) 1000 _ ?_
  refine Good.askAt 7 (ldS 28 ⟨g', 1 * 24, none⟩) (u1.val) (by kernel_rfl) (fun w1 hw h => run_ldN (vs := u1.cl) (by kernel_rfl) (by kernel_rfl) ((h2.below hw).range5 rfl)) ?_
  refine Good.run (by kernel_rfl) (stop := 1000) 1000 _ ?_
  refine Good.callv (fun w1 hw h => pair p1 q1 (i1.below hw) (j1.below hw)) (by kernel_rfl) (fun z => ?_)
  refine Good.run (by kernel_rfl) (stop := 1000) 1000 _ ?_
  refine Good.cond false (by kernel_rfl) ?_
  refine Good.run (by kernel_rfl) (stop := 1000) 1000 _ ?_
  refine Good.cond true (by kernel_rfl) ?_
  refine Good.run (by kernel_rfl) (stop := 1000) 1000 _ ?_
  refine Good.askAt 2 (idxS 35 (.slice (some ⟨g, 0, none⟩) 5 c) 2) (.pointer (some ⟨g, 2 * 24, none⟩)) (by kernel_rfl) (fun w1 hw h => run_idxN (elem := 28) (by kernel_rfl) (by kernel_rfl) (by decide)) ?_
  refine Good.run (by kernel_rfl) (stop := 1000) 1000 _ ?_
  refine Good.askAt 3 (ldS 28 ⟨g, 2 * 24, none⟩) (t2.val) (by kernel_rfl) (fun w1 hw h => run_ldN (vs := t2.cl) (by kernel_rfl) (by kernel_rfl) (flat5 (h1.below hw) rfl)) ?_
  refine Good.run (by kernel_rfl) (stop := 1000) 1000 _ ?_
  refine Good.askAt 6 (idxS 35 (.slice (some ⟨g', 0, none⟩) 5 c') 2) (.pointer (some ⟨g', 2 * 24, none⟩)) (by kernel_rfl) (fun w1 hw h => run_idxN (elem := 28) (by kernel_rfl) (by kernel_rfl) (by decide)) ?_
  refine Good.run (by kernel_rfl) (stop := 1000) 1000 _ ?_
  refine Good.askAt 7 (ldS 28 ⟨g', 2 * 24, none⟩) (u2.val) (by kernel_rfl) (fun w1 hw h => run_ldN (vs := u2.cl) (by kernel_rfl) (by kernel_rfl) ((h2.below hw).range5 rfl)) ?_
  refine Good.run (by kernel_rfl) (stop := 1000) 1000 _ ?_
  refine Good.callv (fun w1 hw h => pair p2 q2 (i2.below hw) (j2.below hw)) (by kernel_rfl) (fun z => ?_)
  refine Good.run (by kernel_rfl) (stop := 1000) 1000 _ ?_
  refine Good.cond false (by kernel_rfl) ?_
  refine Good.run (by kernel_rfl) (stop := 1000) 1000 _ ?_
  refine Good.cond true (by kernel_rfl) ?_
  refine Good.run (by kernel_rfl) (stop := 1000) 1000 _ ?_
  refine Good.askAt 2 (idxS 35 (.slice (some ⟨g, 0, none⟩) 5 c) 3) (.pointer (some ⟨g, 3 * 24, none⟩)) (by kernel_rfl) (fun w1 hw h => run_idxN (elem := 28) (by kernel_rfl) (by kernel_rfl) (by decide)) ?_
  refine Good.run (by kernel_rfl) (stop := 1000) 1000 _ ?_
  refine Good.askAt 3 (ldS 28 ⟨g, 3 * 24, none⟩) (t3.val) (by kernel_rfl) (fun w1 hw h => run_ldN (vs := t3.cl) (by kernel_rfl) (by kernel_rfl) (flat5 (h1.below hw) rfl)) ?_
  refine Good.run (by kernel_rfl) (stop := 1000) 1000 _ ?_
  refine Good.askAt 6 (idxS 35 (.slice (some ⟨g', 0, none⟩) 5 c') 3) (.pointer (some ⟨g', 3 * 24, none⟩)) (by kernel_rfl) (fun w1 hw h => run_idxN (elem := 28) (by kernel_rfl) (by kernel_rfl) (by decide)) ?_
  refine Good.run (by kernel_rfl) (stop := 1000) 1000 _ ?_
  refine Good.askAt 7 (ldS 28 ⟨g', 3 * 24, none⟩) (u3.val) (by kernel_rfl) (fun w1 hw h => run_ldN (vs := u3.cl) (by kernel_rfl) (by kernel_rfl) ((h2.below hw).range5 rfl)) ?_
  refine Good.run (by kernel_rfl) (stop := 1000) 1000 _ ?_
  refine Good.callv (fun w1 hw h => pair p3 q3 (i3.below hw) (j3.below hw)) (by kernel_rfl) (fun z => ?_)
  refine Good.run (by kernel_rfl) (stop := 1000) 1000 _ ?_
  refine Good.cond false (by kernel_rfl) ?_
  refine Good.run (by kernel_rfl) (stop := 1000) 1000 _ ?_
  refine Good.cond true (by kernel_rfl) ?_
  refine Good.run (by kernel_rfl) (stop := 1000) 1000 _ ?_
  refine Good.askAt 2 (idxS 35 (.slice (some ⟨g, 0, none⟩) 5 c) 4) (.pointer (some ⟨g, 4 * 24, none⟩)) (by kernel_rfl) (fun w1 hw h => run_idxN (elem := 28) (by kernel_rfl) (by kernel_rfl) (by decide)) ?_
  refine Good.run (by kernel_rfl) (stop := 1000) 1000 _ ?_
  refine Good.askAt 3 (ldS 28 ⟨g, 4 * 24, none⟩) (t4.val) (by kernel_rfl) (fun w1 hw h => run_ldN (vs := t4.cl) (by kernel_rfl) (by kernel_rfl) (flat5 (h1.below hw) rfl)) ?_
  refine Good.run (by kernel_rfl) (stop := 1000) 1000 _ ?_
  refine Good.askAt 6 (idxS 35 (.slice (some ⟨g', 0, none⟩) 5 c') 4) (.pointer (some ⟨g', 4 * 24, none⟩)) (by kernel_rfl) (fun w1 hw h => run_idxN (elem := 28) (by kernel_rfl) (by kernel_rfl) (by decide)) ?_
  refine Good.run (by kernel_rfl) (stop := 1000) 1000 _ ?_
  refine Good.askAt 7 (ldS 28 ⟨g', 4 * 24, none⟩) (u4.val) (by kernel_rfl) (fun w1 hw h => run_ldN (vs := u4.cl) (by kernel_rfl) (by kernel_rfl) ((h2.below hw).range5 rfl)) ?_
  refine Good.run (by kernel_rfl) (stop := 1000) 1000 _ ?_
  refine Good.callv (fun w1 hw h => pair p4 q4 (i4.below hw) (j4.below hw)) (by kernel_rfl) (fun z => ?_)
  refine Good.run (by kernel_rfl) (stop := 1000) 1000 _ ?_
  refine Good.cond false (by kernel_rfl) ?_
  refine Good.run (by kernel_rfl) (stop := 1000) 1000 _ ?_
  refine Good.cond false (by kernel_rfl) ?_
  refine Good.run (by kernel_rfl) (stop := 1000) 1000 _ ?_
  refine Good.ret (v := .bool true) (by kernel_rfl) (fun w1 hw h => ⟨(), rfl, hw, fun _ _ _ => trivial⟩)
set_option maxRecDepth 100000 in
set_option maxHeartbeats 1000000 in
theorem sameNil_m : Calls Tryz.prog 24 #[.slice none 0 0, .slice none 0 0] w (CallPost w (fun _ : Unit => .bool true) fun _ _ => True) := by
  refine Good.enter Tryz.func24 rfl ?_
  refine Good.run (by kernel_rfl) (stop := 1000) 1000 _ ?_
  refine Good.runC (by kernel_rfl) (stop := 1000) 6000 _ ?_
  refine Good.ret (v := .bool true) (by kernel_rfl) (fun w1 hw h => ⟨(), rfl, hw, fun _ _ _ => trivial⟩)
theorem equalA_v {B : Bool} (hB : eqA T U = B) (ht : IsA t T K w) (hu : IsA u U K w) (hK : 2 ≤ K ∧ K ≤ 10000000) : Calls Tryz.prog 15 #[t.val, u.val] w (CallPost w (fun _ : Unit => .bool B) fun _ _ => True) := by subst hB; exact equalA_m ht hu hK
theorem requalA_v {B : Bool} (hB : eqA T U = B) (ht : IsA t T K w) (hu : IsA u U K w) (hK : 2 ≤ K ∧ K ≤ 10000000) : Calls Tryz.prog 16 #[t.val, u.val] w (CallPost w (fun _ : Unit => .bool B) fun _ _ => True) := by subst hB; exact requalA_m ht hu hK
set_option maxRecDepth 100000 in
set_option maxHeartbeats 4000000 in
theorem lawProperties (it : InT t w) (iu : InT u w) : Calls Tryz.prog 3 #[t.val, u.val] w (CallPost w (fun _ : Unit => .bool true) fun _ _ => True) := by
  refine Good.enter Tryz.func3 rfl ?_
  refine Good.run (by kernel_rfl) (stop := 1000) 1000 _ ?_
  cases hT : smallT t
  ·
    refine Good.callv (fun w1 hw h => smallA_v hT) (by kernel_rfl) (fun z => ?_)
    refine Good.run (by kernel_rfl) (stop := 1000) 1000 _ ?_
    refine Good.runC (by kernel_rfl) (stop := 1000) 6000 _ ?_
    refine Good.callv (fun w1 hw h => tex_m w1) (by kernel_rfl) (fun z => ?_)
    refine Good.run (by kernel_rfl) (stop := 1000) 1000 _ ?_
    refine Good.ret (v := .bool true) (by kernel_rfl) (fun w1 hw h => ⟨(), rfl, hw, fun _ _ _ => trivial⟩)
  obtain ⟨T, ht⟩ := smallT_a hT it
  refine Good.callv (fun w1 hw h => smallA_v hT) (by kernel_rfl) (fun z => ?_)
  refine Good.run (by kernel_rfl) (stop := 1000) 1000 _ ?_
  cases hU : smallT u
  ·
    refine Good.callv (fun w1 hw h => smallA_v hU) (by kernel_rfl) (fun z => ?_)
    refine Good.run (by kernel_rfl) (stop := 1000) 1000 _ ?_
    refine Good.runC (by kernel_rfl) (stop := 1000) 6000 _ ?_
    refine Good.callv (fun w1 hw h => tex_m w1) (by kernel_rfl) (fun z => ?_)
    refine Good.run (by kernel_rfl) (stop := 1000) 1000 _ ?_
    refine Good.ret (v := .bool true) (by kernel_rfl) (fun w1 hw h => ⟨(), rfl, hw, fun _ _ _ => trivial⟩)
  obtain ⟨U, hu⟩ := smallT_a hU iu
  refine Good.callv (fun w1 hw h => smallA_v hU) (by kernel_rfl) (fun z => ?_)
  refine Good.run (by kernel_rfl) (stop := 1000) 1000 _ ?_
  refine Good.cond false (by kernel_rfl) ?_
  refine Good.run (by kernel_rfl) (stop := 1000) 1000 _ ?_
  refine Good.callv (fun w1 hw h => normA_m (ht.below hw) (by decide)) (by kernel_rfl) (fun n => ?_)
  refine Good.run (by kernel_rfl) (stop := 1000) 1000 _ ?_
  cases hB : T.ok
  all_goals
    refine Good.callv (fun w1 hw h => validA_v hB (ht.below hw) (by decide)) (by kernel_rfl) (fun z => ?_)
    refine Good.run (by kernel_rfl) (stop := 1000) 1000 _ ?_
    refine Good.callv (fun w1 hw h => rvalidA_v hB (ht.below hw) (by decide)) (by kernel_rfl) (fun z => ?_)
    refine Good.run (by kernel_rfl) (stop := 1000) 1000 _ ?_
    refine Good.callv (fun w1 hw h => rnormA_m (ht.below hw) (by decide)) (by kernel_rfl) (fun m => ?_)
    refine Good.run (by kernel_rfl) (stop := 1000) 1000 _ ?_
    refine Good.callv (fun w1 hw h => fields_e h.1.1.1.2 h.2) (by kernel_rfl) (fun z => ?_)
    refine Good.run (by kernel_rfl) (stop := 1000) 1000 _ ?_
    cases hQ : eqA T U
    all_goals
      refine Good.callv (fun w1 hw h => equalA_v hQ (ht.below hw) (hu.below hw) (by decide)) (by kernel_rfl) (fun z => ?_)
      refine Good.run (by kernel_rfl) (stop := 1000) 1000 _ ?_
      refine Good.callv (fun w1 hw h => requalA_v hQ (ht.below hw) (hu.below hw) (by decide)) (by kernel_rfl) (fun z => ?_)
      refine Good.run (by kernel_rfl) (stop := 1000) 1000 _ ?_
      refine Good.callv (fun w1 hw h => equalA_v eqA_rfl (ht.below hw) h.1.1.1.1.1.1.2.q (by decide)) (by kernel_rfl) (fun z => ?_)
      refine Good.run (by kernel_rfl) (stop := 1000) 1000 _ ?_
      refine Good.callv (fun w1 hw h => detA_m (ht.below hw) (by decide)) (by kernel_rfl) (fun d => ?_)
      refine Good.run (by kernel_rfl) (stop := 1000) 1000 _ ?_
      refine Good.callv (fun w1 hw h => rdetA_m (ht.below hw) (by decide)) (by kernel_rfl) (fun e => ?_)
      refine Good.run (by kernel_rfl) (stop := 1000) 1000 _ ?_
      refine Good.callv (fun w1 hw h => rsame_nn (B := true) h.1.2 h.2 (by simp)) (by kernel_rfl) (fun z => ?_)
      refine Good.run (by kernel_rfl) (stop := 1000) 1000 _ ?_
      refine Good.callv (fun w1 hw h => tex_m w1) (by kernel_rfl) (fun z => ?_)
      refine Good.run (by kernel_rfl) (stop := 1000) 1000 _ ?_
      refine Good.ret (v := .bool true) (by kernel_rfl) (fun w1 hw h => ⟨(), rfl, hw, fun _ _ _ => trivial⟩)
theorem rcompose_v {A : Option Addr} {n c : Nat} {L : List TV} {Ts : List Aff} {e : Int} (he : compE Ts = e) (hl : RowT w A n L Ts K) (hn : n ≤ 1000) (hK : 8 ≤ K ∧ K ≤ 1000000) :
    Calls Tryz.prog 21 #[.slice A n c] w (CallPost w (fun r : TV => .tuple #[r.val, .int .i64 e]) fun r u => OutA r e (compF Ts) 8 u) := by subst he; exact rcompose_m hl hn hK
theorem invert_v {e : Int} (he : invE T = e) (ht : IsA t T K w) (hK : 2 ≤ K ∧ K ≤ 10000) : Calls Tryz.prog 25 #[t.val] w (CallPost w (fun r : TV => .tuple #[r.val, .int .i64 e]) fun r u => OutA r e T.inv 8 u) := by subst he; exact invert_m ht hK
theorem rinvert_v {e : Int} (he : invE T = e) (ht : IsA t T K w) (hK : 2 ≤ K ∧ K ≤ 10000) : Calls Tryz.prog 26 #[t.val] w (CallPost w (fun r : TV => .tuple #[r.val, .int .i64 e]) fun r u => OutA r e T.inv 8 u) := by subst he; exact rinvert_m ht hK
theorem id_ok : affId.ok = true := by decide +kernel
theorem invE_zero (h : invE T = 0) : T.ok = true ∧ T.det ≠ 0 ∧ T.inv.ok = true := by
  unfold invE at h
  split at h
  · cases h
  · rename_i h1
    split at h
    · cases h
    · rename_i h2
      split at h
      · cases h
      · rename_i h3
        exact ⟨by simpa using h1, h2, by simpa using h3⟩
set_option maxRecDepth 100000 in
set_option maxHeartbeats 4000000 in
theorem lawInvert (it : InT t w) : Calls Tryz.prog 6 #[t.val] w (CallPost w (fun _ : Unit => .bool true) fun _ _ => True) := by
  refine Good.enter Tryz.func6 rfl ?_
  refine Good.run (by kernel_rfl) (stop := 1000) 1000 _ ?_
  cases hT : smallT t
  ·
    refine Good.callv (fun w1 hw h => smallA_v hT) (by kernel_rfl) (fun z => ?_)
    refine Good.run (by kernel_rfl) (stop := 1000) 1000 _ ?_
    refine Good.runC (by kernel_rfl) (stop := 1000) 6000 _ ?_
    refine Good.callv (fun w1 hw h => tex_m w1) (by kernel_rfl) (fun z => ?_)
    refine Good.run (by kernel_rfl) (stop := 1000) 1000 _ ?_
    refine Good.ret (v := .bool true) (by kernel_rfl) (fun w1 hw h => ⟨(), rfl, hw, fun _ _ _ => trivial⟩)
  obtain ⟨T, ht⟩ := smallT_a hT it
  obtain ⟨e, he⟩ : ∃ e, invE T = e := ⟨_, rfl⟩
  refine Good.callv (fun w1 hw h => smallA_v hT) (by kernel_rfl) (fun z => ?_)
  refine Good.run (by kernel_rfl) (stop := 1000) 1000 _ ?_
  refine Good.cond false (by kernel_rfl) ?_
  refine Good.run (by kernel_rfl) (stop := 1000) 1000 _ ?_
  refine Good.callv (fun w1 hw h => invert_v he (ht.below hw) (by decide)) (by kernel_rfl) (fun v => ?_)
  refine Good.run (by kernel_rfl) (stop := 1000) 1000 _ ?_
  refine Good.callv (fun w1 hw h => rinvert_v he (ht.below hw) (by decide)) (by kernel_rfl) (fun x => ?_)
  refine Good.run (by kernel_rfl) (stop := 1000) 1000 _ ?_
  refine Good.callv (fun w1 hw h => fieldsO_m h.1.2 h.2) (by kernel_rfl) (fun z => ?_)
  refine Good.run (by kernel_rfl) (stop := 1000) 1000 _ ?_
  refine Good.condr (e != e) false (by kernel_rfl) (by simp) ?_
  refine Good.run (by kernel_rfl) (stop := 1000) 1000 _ ?_
  by_cases h0 : e = 0
  case neg =>
    refine Good.condr (e != 0) true (by kernel_rfl) (by simpa using h0) ?_
    refine Good.run (by kernel_rfl) (stop := 1000) 1000 _ ?_
    refine Good.callv (fun w1 hw h => tex_m w1) (by kernel_rfl) (fun z => ?_)
    refine Good.run (by kernel_rfl) (stop := 1000) 1000 _ ?_
    refine Good.ret (v := .bool true) (by kernel_rfl) (fun w1 hw h => ⟨(), rfl, hw, fun _ _ _ => trivial⟩)
  subst h0
  obtain ⟨k1, k2, k3⟩ := invE_zero he
  have c1 : compE [T, T.inv] = 0 := compE2.2 ⟨k1, k3, by rw [comp_inv k2]; exact id_ok⟩
  have c2 : compE [T.inv, T] = 0 := compE2.2 ⟨k3, k1, by rw [inv_comp k2]; exact id_ok⟩
  refine Good.cond false (by kernel_rfl) ?_
  refine Good.run (by kernel_rfl) (stop := 2) 1000 _ ?_
  refine Good.make (litS 35 2 #[(0, t.val), (1, v.val)]) (litV 2) (litG 28 ([t, v].flatMap TV.cl).toArray) (by kernel_rfl) (fun w1 hw h => make_lit (by kernel_rfl)) (fun g1 => ?_)
  refine Good.run (by kernel_rfl) (stop := 1000) 1000 _ ?_
  refine Good.callv (fun w1 hw h => compose_v (K := 20) (c := 2) c1 (row_two h.2 (ht.below hw) ((h.1.1.1.2.n rfl).q.mono (by decide))) (by decide) (by decide)) (by kernel_rfl) (fun a => ?_)
  refine Good.run (by kernel_rfl) (stop := 2) 1000 _ ?_
  refine Good.make (litS 35 2 #[(0, v.val), (1, t.val)]) (litV 2) (litG 28 ([v, t].flatMap TV.cl).toArray) (by kernel_rfl) (fun w1 hw h => make_lit (by kernel_rfl)) (fun g2 => ?_)
  refine Good.run (by kernel_rfl) (stop := 1000) 1000 _ ?_
  refine Good.callv (fun w1 hw h => compose_v (K := 20) (c := 2) c2 (row_two h.2 ((h.1.1.1.1.1.2.n rfl).q.mono (by decide)) (ht.below hw)) (by decide) (by decide)) (by kernel_rfl) (fun b => ?_)
  refine Good.run (by kernel_rfl) (stop := 1000) 1000 _ ?_
  refine Good.callv (fun w1 hw h => ridentity_m) (by kernel_rfl) (fun i => ?_)
  refine Good.run (by kernel_rfl) (stop := 1000) 1000 _ ?_
  refine Good.callv (fun w1 hw h => fields_e ((h.1.1.1.2.n rfl).cast (compF2.trans (comp_inv k2))) h.2) (by kernel_rfl) (fun z => ?_)
  refine Good.run (by kernel_rfl) (stop := 1000) 1000 _ ?_
  refine Good.callv (fun w1 hw h => ridentity_m) (by kernel_rfl) (fun j => ?_)
  refine Good.run (by kernel_rfl) (stop := 1000) 1000 _ ?_
  refine Good.callv (fun w1 hw h => fields_e ((h.1.1.1.2.n rfl).cast (compF2.trans (inv_comp k2))) h.2) (by kernel_rfl) (fun z => ?_)
  refine Good.run (by kernel_rfl) (stop := 1000) 1000 _ ?_
  refine Good.callv (fun w1 hw h => tex_m w1) (by kernel_rfl) (fun z => ?_)
  refine Good.run (by kernel_rfl) (stop := 1000) 1000 _ ?_
  refine Good.ret (v := .bool true) (by kernel_rfl) (fun w1 hw h => ⟨(), rfl, hw, fun _ _ _ => trivial⟩)
theorem decomposeV_z (hE : decE T = 0) (ht : IsA t T K w) (hK : 2 ≤ K ∧ K ≤ 10000) : Calls Tryz.prog 22 #[t.val] w (CallPost w (fun q : Nat × (TV × TV × TV × TV × TV) => .tuple #[litV 5 q.1, .int .i64 0]) fun q u => FiveN q (partsA T) (8 * K + 2) u) := decompose_z hE ht hK
theorem rdecompose_z (hE : decE T = 0) (ht : IsA t T K w) (hK : 2 ≤ K ∧ K ≤ 10000) : Calls Tryz.prog 23 #[t.val] w (CallPost w (fun q : Nat × Nat × (TV × TV × TV × TV × TV) => .tuple #[.slice (some ⟨q.1, 0, none⟩) 5 q.2.1, .int .i64 0]) fun q u => OwnR u 0 28 24 (some ⟨q.1, 0, none⟩) 5 q.2.1 ([q.2.2.1, q.2.2.2.1, q.2.2.2.2.1, q.2.2.2.2.2.1, q.2.2.2.2.2.2].flatMap TV.cl) ∧ Five q.2.2 (partsA T) (8 * K + 2) u) := by
  refine (rdecompose_m ht hK).mono fun e w' h => ?_
  obtain ⟨q, h1, h2, h3⟩ := h
  obtain ⟨g, hg, _⟩ := (h3 w' (Nat.le_refl _) (fun _ _ _ => rfl) hE).1.cells (by decide)
  refine ⟨(g, q.1.2, q.2), ?_, h2, fun w'' k1 k2 => ?_⟩
  · rw [h1]
    show Ending.returned (Value.tuple #[rdecV T q.1, .int .i64 (decE T)]) = _
    unfold rdecV
    rw [hE, if_pos rfl, hg]
  · have := h3 w'' k1 k2 hE
    rw [hg] at this
    exact ⟨this.1.rebase (fun _ _ => Nat.zero_le _), this.2⟩
theorem rdecompose_e (hE : decE T ≠ 0) (ht : IsA t T K w) (hK : 2 ≤ K ∧ K ≤ 10000) : Calls Tryz.prog 23 #[t.val] w (CallPost w (fun _ : Unit => .tuple #[.slice none 0 0, .int .i64 (decE T)]) fun _ _ => True) := by
  refine (rdecompose_m ht hK).mono fun e w' h => ?_
  obtain ⟨q, h1, h2, h3⟩ := h
  exact ⟨(), by rw [h1]; show Ending.returned (Value.tuple #[rdecV T q.1, .int .i64 (decE T)]) = _; unfold rdecV; rw [if_neg hE], h2, fun w'' k1 k2 => trivial⟩
theorem FiveN.five {q : Nat × (TV × TV × TV × TV × TV)} {Ts : List Aff} (h : FiveN q Ts K w) : Five q.2 Ts K w := ⟨h.n0, h.n1, h.n2, h.n3, h.n4⟩
set_option maxRecDepth 100000 in
set_option maxHeartbeats 4000000 in
theorem lawDecompose (it : InT t w) : Calls Tryz.prog 5 #[t.val] w (CallPost w (fun _ : Unit => .bool true) fun _ _ => True) := by
  refine Good.enter Tryz.func5 rfl ?_
  refine Good.run (by kernel_rfl) (stop := 1000) 1000 _ ?_
  cases hT : smallT t
  ·
    refine Good.callv (fun w1 hw h => smallA_v hT) (by kernel_rfl) (fun z => ?_)
    refine Good.run (by kernel_rfl) (stop := 1000) 1000 _ ?_
    refine Good.runC (by kernel_rfl) (stop := 1000) 6000 _ ?_
    refine Good.callv (fun w1 hw h => tex_m w1) (by kernel_rfl) (fun z => ?_)
    refine Good.run (by kernel_rfl) (stop := 1000) 1000 _ ?_
    refine Good.ret (v := .bool true) (by kernel_rfl) (fun w1 hw h => ⟨(), rfl, hw, fun _ _ _ => trivial⟩)
  obtain ⟨T, ht⟩ := smallT_a hT it
  refine Good.callv (fun w1 hw h => smallA_v hT) (by kernel_rfl) (fun z => ?_)
  refine Good.run (by kernel_rfl) (stop := 1000) 1000 _ ?_
  refine Good.cond false (by kernel_rfl) ?_
  refine Good.run (by kernel_rfl) (stop := 1000) 1000 _ ?_
  by_cases hE : decE T = 0
  case neg =>
    refine Good.callv (fun w1 hw h => decompose_e hE (ht.below hw) (by decide)) (by kernel_rfl) (fun l => ?_)
    refine Good.run (by kernel_rfl) (stop := 1000) 1000 _ ?_
    refine Good.callv (fun w1 hw h => rdecompose_e hE (ht.below hw) (by decide)) (by kernel_rfl) (fun m => ?_)
    refine Good.run (by kernel_rfl) (stop := 1000) 1000 _ ?_
    refine Good.callv (fun w1 hw h => sameNil_m) (by kernel_rfl) (fun z => ?_)
    refine Good.run (by kernel_rfl) (stop := 7) 1000 _ ?_
    refine Good.slot 27 (.bool (decE T == decE T)) (.bool true) (by kernel_rfl) (by simp) ?_
    refine Good.run (by kernel_rfl) (stop := 1000) 1000 _ ?_
    refine Good.callv (fun w1 hw h => tex_m w1) (by kernel_rfl) (fun z => ?_)
    refine Good.run (by kernel_rfl) (stop := 1000) 1000 _ ?_
    refine Good.ret (v := .bool true) (by kernel_rfl) (fun w1 hw h => ⟨(), rfl, hw, fun _ _ _ => trivial⟩)
  refine Good.callv (fun w1 hw h => decompose_z hE (ht.below hw) (by decide)) (by kernel_rfl) (fun l => ?_)
  refine Good.run (by kernel_rfl) (stop := 1000) 1000 _ ?_
  refine Good.callv (fun w1 hw h => rdecompose_z hE (ht.below hw) (by decide)) (by kernel_rfl) (fun m => ?_)
  refine Good.run (by kernel_rfl) (stop := 1000) 1000 _ ?_
  refine Good.callv (fun w1 hw h => sameAll_m (c := 5) h.1.2.box h.2.1 h.1.2.five h.2.2) (by kernel_rfl) (fun z => ?_)
  refine Good.run (by kernel_rfl) (stop := 1000) 1000 _ ?_
  refine Good.callv (fun w1 hw h => tex_m w1) (by kernel_rfl) (fun z => ?_)
  refine Good.run (by kernel_rfl) (stop := 1000) 1000 _ ?_
  refine Good.ret (v := .bool true) (by kernel_rfl) (fun w1 hw h => ⟨(), rfl, hw, fun _ _ _ => trivial⟩)
theorem inv_app {p : Tri} (h0 : (frameT p).det ≠ 0) {x y X Y : Rat} (h : (frameT p).app x y = (X, Y)) : (frameT p).inv.app X Y = (x, y) := by
  have h1 := app_comp (frameT p) (frameT p).inv x y
  rw [comp_inv h0, h] at h1
  rw [← h1]
  simp only [affId, affI, Aff.app, q0, q1, Prod.mk.injEq]
  constructor <;> grind
theorem half_floor (n : Int) : ((n : Rat) + halfQ).floor = n := by
  have h : (n : Rat) + halfQ = halfQ + (n : Rat) := Rat.add_comm _ _
  rw [h, Rat.floor_add_intCast]
  have : halfQ.floor = 0 := by decide +kernel
  omega
theorem at_int {X Y A B : Int} (hT : T.ok = true) (hv : validP X Y = true) (hv2 : validP A B = true) (h : T.app (X : Rat) (Y : Rat) = ((A : Rat), (B : Rat))) : atP T X Y = pt A B ∧ atE T X Y = 0 := by
  have h1 : atX T X Y = A := by unfold atX; rw [h]; exact half_floor A
  have h2 : atY T X Y = B := by unfold atY; rw [h]; exact half_floor B
  have hb := tri_bd hv2
  have f1 : fitB A = true := by unfold fitB; rw [decide_eq_true (by omega)]
  have f2 : fitB B = true := by unfold fitB; rw [decide_eq_true (by omega)]
  have hok : atOk T X Y = true := by unfold atOk; rw [h1, h2, f1, f2, toV_fit f1, toV_fit f2, hv2]; rfl
  have he : atE T X Y = 0 := by unfold atE; rw [if_neg (by rw [hT]; simp), if_neg (by rw [hv]; simp), if_neg (by rw [hok]; simp)]
  exact ⟨by unfold atP; rw [if_pos he, h1, h2], he⟩
theorem tri_app (h : triE a b = 0) {x y : Rat} {X Y A B : Int} (h1 : (frameT a).app x y = ((X : Rat), (Y : Rat))) (h2 : (frameT b).app x y = ((A : Rat), (B : Rat))) : (triF a b).app (X : Rat) (Y : Rat) = ((A : Rat), (B : Rat)) := by
  obtain ⟨_, _, d1⟩ := triE_zero h
  have hd : (frameT a).det ≠ 0 := by rw [det_frame]; exact_mod_cast d1
  rw [triF_eq, app_comp, inv_app hd h1]
  exact h2
theorem frame_app (p : Tri) : (frameT p).app 0 0 = ((p.x0 : Rat), (p.y0 : Rat)) ∧ (frameT p).app 1 0 = ((p.x1 : Rat), (p.y1 : Rat)) ∧ (frameT p).app 0 1 = ((p.x2 : Rat), (p.y2 : Rat)) := by
  simp only [frameT, Aff.app, Rat.intCast_sub, Prod.mk.injEq]
  refine ⟨⟨?_, ?_⟩, ⟨?_, ?_⟩, ?_, ?_⟩ <;> grind
theorem tri_ok (h : triE a b = 0) : (triF a b).ok = true ∧ (validP a.x0 a.y0 = true ∧ validP a.x1 a.y1 = true ∧ validP a.x2 a.y2 = true) ∧ validP b.x0 b.y0 = true ∧ validP b.x1 b.y1 = true ∧ validP b.x2 b.y2 = true := by
  obtain ⟨h1, h2, h3⟩ := triE_zero h
  refine ⟨by rw [triF_eq]; exact comp_ok h1 h2 h3, ?_, ?_⟩
  · unfold Tri.ok at h1; simpa using h1
  · unfold Tri.ok at h2; simpa using h2
theorem rfromTri_v {e : Int} (he : triE a b = e) : Calls Tryz.prog 29 #[a.val, b.val] w (CallPost w (fun r : TV => .tuple #[r.val, .int .i64 e]) fun r u => OutA r e (triF a b) 8 u) := by subst he; exact rfromTri_m
set_option maxRecDepth 100000 in
set_option maxHeartbeats 4000000 in
theorem lawTriangles : Calls Tryz.prog 7 #[a.val, b.val] w (CallPost w (fun _ : Unit => .bool true) fun _ _ => True) := by
  obtain ⟨e, he⟩ : ∃ e, triE a b = e := ⟨_, rfl⟩
  refine Good.enter Tryz.func7 rfl ?_
  refine Good.run (by kernel_rfl) (stop := 1000) 1000 _ ?_
  refine Good.callv (fun w1 hw h => fromTri_v he) (by kernel_rfl) (fun v => ?_)
  refine Good.run (by kernel_rfl) (stop := 1000) 1000 _ ?_
  refine Good.callv (fun w1 hw h => rfromTri_v he) (by kernel_rfl) (fun x => ?_)
  refine Good.run (by kernel_rfl) (stop := 1000) 1000 _ ?_
  refine Good.callv (fun w1 hw h => fieldsO_m h.1.2 h.2) (by kernel_rfl) (fun z => ?_)
  refine Good.run (by kernel_rfl) (stop := 1000) 1000 _ ?_
  refine Good.condr (e != e) false (by kernel_rfl) (by simp) ?_
  refine Good.run (by kernel_rfl) (stop := 1000) 1000 _ ?_
  by_cases h0 : e = 0
  case neg =>
    refine Good.un (by kernel_rfl) ?_
    refine Good.run (by kernel_rfl) (stop := 2) 1000 _ ?_
    refine Good.slot 34 (.bool (e == 0)) (.bool false) (by kernel_rfl) (by simpa using h0) ?_
    refine Good.runC (by kernel_rfl) (stop := 1000) 6000 _ ?_
    refine Good.callv (fun w1 hw h => tex_m w1) (by kernel_rfl) (fun z => ?_)
    refine Good.run (by kernel_rfl) (stop := 1000) 1000 _ ?_
    refine Good.ret (v := .bool true) (by kernel_rfl) (fun w1 hw h => ⟨(), rfl, hw, fun _ _ _ => trivial⟩)
  subst h0
  obtain ⟨ok, ⟨va0, va1, va2⟩, vb0, vb1, vb2⟩ := tri_ok he
  obtain ⟨fa0, fa1, fa2⟩ := frame_app a
  obtain ⟨fb0, fb1, fb2⟩ := frame_app b
  refine Good.un (by kernel_rfl) ?_
  refine Good.run (by kernel_rfl) (stop := 1000) 1000 _ ?_
  refine Good.drop 10 (by kernel_rfl) (fun _ => ?_)
  refine Good.cond true (by kernel_rfl) ?_
  refine Good.run (by kernel_rfl) (stop := 1000) 1000 _ ?_
  obtain ⟨r0, s0⟩ := at_int ok va0 vb0 (tri_app he fa0 fb0)
  refine Good.callv (fun w1 hw h => apply_v r0 s0 (h.1.1.2.n rfl).q (by decide)) (by kernel_rfl) (fun z => ?_)
  refine Good.run (by kernel_rfl) (stop := 0) 1000 _ ?_
  refine Good.run (by kernel_rfl) (stop := 1000) 5 _ ?_
  refine Good.take [0, 1, 2, 3] ?_
  refine Good.askAt 4 (neP 47 (.tmp 49) (.tmp 52) (pt b.x0 b.y0) (pt b.x0 b.y0)) (.bool false) (by kernel_rfl) (fun w1 hw h => by rw [run_neP]; simp) ?_
  refine Good.run (by kernel_rfl) (stop := 1000) 1000 _ ?_
  refine Good.cond false (by kernel_rfl) ?_
  refine Good.run (by kernel_rfl) (stop := 1000) 1000 _ ?_
  refine Good.drop 10 (by kernel_rfl) (fun _ => ?_)
  refine Good.cond true (by kernel_rfl) ?_
  refine Good.run (by kernel_rfl) (stop := 1000) 1000 _ ?_
  obtain ⟨r1, s1⟩ := at_int ok va1 vb1 (tri_app he fa1 fb1)
  refine Good.callv (fun w1 hw h => apply_v r1 s1 (h.1.1.1.2.n rfl).q (by decide)) (by kernel_rfl) (fun z => ?_)
  refine Good.run (by kernel_rfl) (stop := 0) 1000 _ ?_
  refine Good.run (by kernel_rfl) (stop := 1000) 5 _ ?_
  refine Good.take [0, 1, 2, 3] ?_
  refine Good.askAt 4 (neP 47 (.tmp 49) (.tmp 52) (pt b.x1 b.y1) (pt b.x1 b.y1)) (.bool false) (by kernel_rfl) (fun w1 hw h => by rw [run_neP]; simp) ?_
  refine Good.run (by kernel_rfl) (stop := 1000) 1000 _ ?_
  refine Good.cond false (by kernel_rfl) ?_
  refine Good.run (by kernel_rfl) (stop := 1000) 1000 _ ?_
  refine Good.drop 10 (by kernel_rfl) (fun _ => ?_)
  refine Good.cond true (by kernel_rfl) ?_
  refine Good.run (by kernel_rfl) (stop := 1000) 1000 _ ?_
  obtain ⟨r2, s2⟩ := at_int ok va2 vb2 (tri_app he fa2 fb2)
  refine Good.callv (fun w1 hw h => apply_v r2 s2 (h.1.1.1.1.2.n rfl).q (by decide)) (by kernel_rfl) (fun z => ?_)
  refine Good.run (by kernel_rfl) (stop := 0) 1000 _ ?_
  refine Good.run (by kernel_rfl) (stop := 1000) 5 _ ?_
  refine Good.take [0, 1, 2, 3] ?_
  refine Good.askAt 4 (neP 47 (.tmp 49) (.tmp 52) (pt b.x2 b.y2) (pt b.x2 b.y2)) (.bool false) (by kernel_rfl) (fun w1 hw h => by rw [run_neP]; simp) ?_
  refine Good.run (by kernel_rfl) (stop := 1000) 1000 _ ?_
  refine Good.cond false (by kernel_rfl) ?_
  refine Good.run (by kernel_rfl) (stop := 1000) 1000 _ ?_
  refine Good.cond false (by kernel_rfl) ?_
  refine Good.run (by kernel_rfl) (stop := 1000) 1000 _ ?_
  refine Good.callv (fun w1 hw h => tex_m w1) (by kernel_rfl) (fun z => ?_)
  refine Good.run (by kernel_rfl) (stop := 1000) 1000 _ ?_
  refine Good.ret (v := .bool true) (by kernel_rfl) (fun w1 hw h => ⟨(), rfl, hw, fun _ _ _ => trivial⟩)
end

/-- A slice of transforms that came in. -/
structure RowTG (w : World) (A : Option Addr) (n : Nat) (L : List TV) : Prop where
  len : L.length = n
  cells : ∀ (k : Nat) (t : TV), L[k]? = some t → ∃ ad : Addr, A = some ad ∧ ∀ (j : Nat) (v : Value), t.cl[j]? = some v → w.cell? ((ad.add (k * 24)).add j) = some v
  elems : ∀ t ∈ L, InT t w
theorem rd_affs {w : World} {A : Option Addr} {n c : Nat} (h : Rd w (.sl 24 shAff) [.slice A n c]) : ∃ L, RowTG w A n L := by
  obtain ⟨A', n', c', e, _, _, h⟩ := h
  injection e with e
  injection e with e1 e2 e3
  subst e1 e2 e3
  have hex : ∀ i, ∃ t : TV, i < n → (∃ ad : Addr, A = some ad ∧ ∀ (j : Nat) (v : Value), t.cl[j]? = some v → w.cell? ((ad.add (i * 24)).add j) = some v) ∧ InT t w := fun i => by
    by_cases hi : i < n
    · obtain ⟨ad, xs, hA, _, hc, hr⟩ := h i hi
      obtain ⟨t, rfl, it⟩ := rd_aff hr
      exact ⟨t, fun _ => ⟨⟨ad, hA, hc⟩, it⟩⟩
    · exact ⟨TV0, fun h => absurd h hi⟩
  refine ⟨(List.range n).map fun i => Classical.choose (hex i), by simp, fun i r hi => ?_, fun r hr => ?_⟩
  · rw [List.getElem?_map] at hi
    cases hq : (List.range n)[i]? with
    | none => rw [hq] at hi; cases hi
    | some i' =>
      rw [hq] at hi
      injection hi with hi
      obtain ⟨h5, h6⟩ := List.getElem?_eq_some_iff.1 hq
      obtain rfl : i = i' := by simpa using h6
      subst hi
      exact (Classical.choose_spec (hex i) (by simpa using h5)).1
  · obtain ⟨i, hi, rfl⟩ := List.mem_map.1 hr
    exact (Classical.choose_spec (hex i) (by simpa using hi)).2
section
variable {w : World}
def qOfR (r : RV) : Rat := Rat.divInt (zi r.a.s (val r.a.l)) (zi r.b.s (val r.b.l))
def affOf (t : TV) : Aff := ⟨qOfR t.a, qOfR t.b, qOfR t.c, qOfR t.d, qOfR t.e, qOfR t.f⟩
theorem affOf_a {t : TV} (h : smallT t = true) (i : InT t w) : IsA t (affOf t) 20 w := by
  unfold smallT at h
  simp only [Bool.and_eq_true, decide_eq_true_eq] at h
  obtain ⟨a1, a2, b1, b2, c1, c2, d1, d2, e1, e2, f1, f2⟩ := h
  exact ⟨⟨_, _, of_in i.a.1 a1, of_in i.a.2 a2, rfl⟩, ⟨_, _, of_in i.b.1 b1, of_in i.b.2 b2, rfl⟩, ⟨_, _, of_in i.c.1 c1, of_in i.c.2 c2, rfl⟩, ⟨_, _, of_in i.d.1 d1, of_in i.d.2 d2, rfl⟩, ⟨_, _, of_in i.e.1 e1, of_in i.e.2 e2, rfl⟩, ⟨_, _, of_in i.f.1 f1, of_in i.f.2 f2, rfl⟩⟩
theorem RowTG.row {A : Option Addr} {n : Nat} {L : List TV} (h : RowTG w A n L) (hs : ∀ t ∈ L, smallT t = true) : RowT w A n L (L.map affOf) 20 :=
  ⟨h.len, by simp [h.len], h.cells, fun k t T h1 h2 => by
    rw [List.getElem?_map, h1] at h2
    injection h2 with h2
    subst h2
    have hm := List.mem_of_getElem? h1
    exact affOf_a (hs t hm) (h.elems t hm)⟩
set_option maxRecDepth 100000 in
set_option maxHeartbeats 4000000 in
theorem lawComposition {A : Option Addr} {n c : Nat} {L : List TV} (hl : RowTG w A n L) : Calls Tryz.prog 4 #[.slice A n c] w (CallPost w (fun _ : Unit => .bool true) fun _ _ => True) := by
  by_cases h6 : n ≤ 6
  case neg =>
    refine Good.enter Tryz.func4 rfl ?_
    refine Good.run (by kernel_rfl) (stop := 1000) 1000 _ ?_
    refine Good.condr (decide ((n : Int) > 6)) true (by kernel_rfl) (by simp; omega) ?_
    refine Good.run (by kernel_rfl) (stop := 1000) 1000 _ ?_
    refine Good.callv (fun w1 hw h => tex_m w1) (by kernel_rfl) (fun u => ?_)
    refine Good.run (by kernel_rfl) (stop := 1000) 1000 _ ?_
    refine Good.ret (v := .bool true) (by kernel_rfl) (fun w1 hw h => ⟨(), rfl, hw, fun _ _ _ => trivial⟩)
  refine Good.enter Tryz.func4 rfl ?_
  refine Good.run (by kernel_rfl) (stop := 1000) 1000 _ ?_
  refine Good.condr (decide ((n : Int) > 6)) false (by kernel_rfl) (by simp; omega) ?_
  refine Good.run (by kernel_rfl) (stop := 1000) 1000 _ ?_
  refine Good.loop (ι := {k : Nat // k ≤ n ∧ ∀ t ∈ L.take k, smallT t = true}) 46 (fun q => ⟨[(0, .v (.slice A n c)), (13, .v (.int .i64 n)), (14, .v (.int .i64 q.1))], []⟩) (fun _ _ => True) (fun q => n - q.1) (⟨0, by omega, by simp⟩) (by kernel_rfl) (fun _ => by kernel_rfl) ⟨by kernel_rfl, by kernel_rfl, by kernel_rfl⟩ (fun _ _ => trivial) ?_
  rintro ⟨k, hk, hall⟩ gg
  by_cases hlt : k < n
  ·
    refine Good.run (by kernel_rfl) (stop := 1000) 1000 _ ?_
    refine Good.condr (decide ((k : Int) < (n : Int))) true (by kernel_rfl) (by simp; omega) ?_
    refine Good.run (by kernel_rfl) (stop := 1000) 1000 _ ?_
    obtain ⟨x, hx⟩ : ∃ x, L[k]? = some x := ⟨_, List.getElem?_eq_getElem (by rw [hl.len]; exact hlt)⟩
    obtain ⟨ad, hA, hcells⟩ := hl.cells k x hx
    refine Good.ask (idxS 35 (.slice A n c) k) (.pointer (some (ad.add (k * 24)))) (by kernel_rfl) (fun w1 hw h => by rw [hA]; exact run_idxA (elem := 28) (by kernel_rfl) (by kernel_rfl) hlt) ?_
    refine Good.run (by kernel_rfl) (stop := 1000) 1000 _ ?_
    refine Good.ask (ldS 28 (ad.add (k * 24))) (x.val) (by kernel_rfl) (fun w1 hw h => run_ldA (vs := x.cl) (by kernel_rfl) (by kernel_rfl) (fun j v hv => keepc hw (hcells j v hv))) ?_
    refine Good.run (by kernel_rfl) (stop := 1000) 1000 _ ?_
    cases hS : smallT x
    ·
      refine Good.callv (fun w1 hw h => smallA_v hS) (by kernel_rfl) (fun u => ?_)
      refine Good.run (by kernel_rfl) (stop := 1000) 1000 _ ?_
      refine Good.runC (by kernel_rfl) (stop := 1000) 6000 _ ?_
      refine Good.callv (fun w1 hw h => tex_m w1) (by kernel_rfl) (fun u => ?_)
      refine Good.run (by kernel_rfl) (stop := 1000) 1000 _ ?_
      refine Good.leave (by kernel_rfl) ?_
      refine Good.run (by kernel_rfl) (stop := 1000) 1000 _ ?_
      refine Good.ret (v := .bool true) (by kernel_rfl) (fun w1 hw h => ⟨(), rfl, hw, fun _ _ _ => trivial⟩)
    ·
      refine Good.callv (fun w1 hw h => smallA_v hS) (by kernel_rfl) (fun u => ?_)
      refine Good.run (by kernel_rfl) (stop := 1000) 1000 _ ?_
      refine Good.cond false (by kernel_rfl) ?_
      refine Good.run (by kernel_rfl) (stop := 1000) 1000 _ ?_
      refine Good.slot 14 (.int .i64 (IntKind.i64.wrap ((k : Int) + 1))) (.int .i64 ((k + 1 : Nat) : Int)) (by kernel_rfl) (by rw [wrap_succ hlt (by omega)]) ?_
      refine Good.next (⟨k + 1, by omega, by intro t ht; rw [List.take_add_one, hx] at ht; simp only [Option.toList_some, List.mem_append, List.mem_singleton] at ht; rcases ht with ht | ht; exact hall t ht; rw [ht]; exact hS⟩) (by kernel_rfl) (by show n - (k + 1) < n - k; omega) ⟨by kernel_rfl, by kernel_rfl, by kernel_rfl⟩ (fun _ _ => trivial)
  ·
    refine Good.run (by kernel_rfl) (stop := 1000) 1000 _ ?_
    refine Good.condr (decide ((k : Int) < (n : Int))) false (by kernel_rfl) (by simp at hlt ⊢; omega) ?_
    refine Good.run (by kernel_rfl) (stop := 1000) 1000 _ ?_
    have hkn : k = n := by omega
    have hsm : ∀ t ∈ L, smallT t = true := by rw [hkn, List.take_of_length_le (by rw [hl.len]; omega)] at hall; exact hall
    have hrow := hl.row hsm
    obtain ⟨e, he⟩ : ∃ e, compE (L.map affOf) = e := ⟨_, rfl⟩
    refine Good.leave (by kernel_rfl) ?_
    refine Good.run (by kernel_rfl) (stop := 1000) 1000 _ ?_
    refine Good.callv (fun w1 hw h => compose_v (c := c) he (hrow.below hw) (by omega) (by decide)) (by kernel_rfl) (fun v => ?_)
    refine Good.run (by kernel_rfl) (stop := 1000) 1000 _ ?_
    refine Good.callv (fun w1 hw h => rcompose_v (c := c) he (hrow.below hw) (by omega) (by decide)) (by kernel_rfl) (fun x => ?_)
    refine Good.run (by kernel_rfl) (stop := 1000) 1000 _ ?_
    refine Good.callv (fun w1 hw h => fieldsO_m h.1.2 h.2) (by kernel_rfl) (fun u => ?_)
    refine Good.run (by kernel_rfl) (stop := 7) 1000 _ ?_
    refine Good.slot 41 (.bool (e == e)) (.bool true) (by kernel_rfl) (by simp) ?_
    refine Good.run (by kernel_rfl) (stop := 1000) 1000 _ ?_
    refine Good.callv (fun w1 hw h => tex_m w1) (by kernel_rfl) (fun u => ?_)
    refine Good.run (by kernel_rfl) (stop := 1000) 1000 _ ?_
    refine Good.ret (v := .bool true) (by kernel_rfl) (fun w1 hw h => ⟨(), rfl, hw, fun _ _ _ => trivial⟩)
end

section
variable {w : World} {x0 x1 x2 : List Value}
theorem rowProperties (h0 : Rd w shAff x0) (h1 : Rd w shAff x1) : Calls Tryz.prog 3 #[.agg x0.toArray, .agg x1.toArray] w (Done w) := by
  obtain ⟨t, rfl, it⟩ := rd_aff h0
  obtain ⟨u, rfl, iu⟩ := rd_aff h1
  exact (lawProperties it iu).mono fun _ _ h => law_end h
theorem rowInvert (h0 : Rd w shAff x0) : Calls Tryz.prog 6 #[.agg x0.toArray] w (Done w) := by
  obtain ⟨t, rfl, it⟩ := rd_aff h0
  exact (lawInvert it).mono fun _ _ h => law_end h
theorem rowDecompose (h0 : Rd w shAff x0) : Calls Tryz.prog 5 #[.agg x0.toArray] w (Done w) := by
  obtain ⟨t, rfl, it⟩ := rd_aff h0
  exact (lawDecompose it).mono fun _ _ h => law_end h
theorem rowTriangles (h0 : Rd w shTri x0) (h1 : Rd w shTri x1) : Calls Tryz.prog 7 #[.agg x0.toArray, .agg x1.toArray] w (Done w) := by
  obtain ⟨a, ha⟩ := rd_tri h0
  obtain ⟨b, hb⟩ := rd_tri h1
  rw [ha, hb]
  exact lawTriangles.mono fun _ _ h => law_end h
theorem rowComposition {A : Option Addr} {n c : Nat} (h0 : Rd w (.sl 24 shAff) [.slice A n c]) : Calls Tryz.prog 4 #[.slice A n c] w (Done w) := by
  obtain ⟨L, hl⟩ := rd_affs h0
  exact (lawComposition hl).mono fun _ _ h => law_end h
end

end Go.Proofs.YtfmcpplkmldhiaaGreat
