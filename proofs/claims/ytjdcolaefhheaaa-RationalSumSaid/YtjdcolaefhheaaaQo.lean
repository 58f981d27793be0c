/-
  The laws of fractions: arithmetic; rows of fractions.
-/
import Derived.Test.YtjdcolaefhheaaaQn
namespace Go.Proofs.Ytjdcolaefhheaaa
set_option linter.unusedVariables false
set_option linter.unusedSimpArgs false
open Go.RowKit

theorem run_idxN {P : Program} {t elem : TypeId} {g n c k s : Nat} {w : World} (hu : P.underlying t = some (.slice elem)) (hs : sizeT P elem = some s) (hk : k < n) :
    (idxS t (.slice (some ⟨g, 0, none⟩) n c) k).run P w = .ok (.value (.pointer (some ⟨g, k * s, none⟩))) w := by
  have hb : 0 ≤ (k : Int) ∧ (k : Int) < (n : Int) := by omega
  simp only [idxS, Instr.indexAt, asIntOf, Sem.run_bind, Sem.run_pure, Result.andThen_ok, run_underlying hu, run_sizeT hs, if_pos hb, Int.toNat_natCast, Addr.add_mid, Nat.zero_add]
theorem run_ldN {P : Program} {t : TypeId} {g off : Nat} {vs : List Value} {w : World} (ht : isRowT P t = some true) (hn : sizeT P t = some vs.length) (h : w.rangeAt g off vs) :
    (ldS t ⟨g, off, none⟩).run P w = .ok (.value (.agg vs.toArray)) w := by
  have hrun : ∀ d : TypeDesc, P.underlying t = some d → d.isRow = true → (loadVar t ⟨g, off, none⟩).run P w = .ok (.agg vs.toArray) w := fun d hd hdr =>
    run_loadVar_mid w g off t vs d h hd hdr hn
  have hl : (loadVar t ⟨g, off, none⟩).run P w = .ok (.agg vs.toArray) w := by
    unfold isRowT at ht
    split at ht
    · rename_i hd; exact hrun _ hd rfl
    · rename_i hd; exact hrun _ hd rfl
    · cases ht
    · cases ht
  simp only [ldS, Sem.run_bind, Instr.loadAt, Instr.sureAddr, Sem.run_pure, Result.andThen_ok, hl]
def RV.cl (r : RV) : List Value := [.bool r.a.s, .slice r.a.A r.a.n r.a.c, .bool r.b.s, .slice r.b.A r.b.n r.b.c]
/-- A row of fractions' structs. -/
def RatsAt (w : World) (g : Nat) (L : List RV) : Prop := ∀ k r, L[k]? = some r → w.rangeAt g (k * 4) r.cl
theorem cl_at : ∀ (L : List RV) (k j : Nat) (r : RV) (v : Value), L[k]? = some r → r.cl[j]? = some v → (L.flatMap RV.cl)[k * 4 + j]? = some v := by
  intro L
  induction L with
  | nil => intro k j r v h; cases h
  | cons x L ih =>
    intro k j r v h hv
    have hj : j < 4 := (List.getElem?_eq_some_iff.1 hv).1
    rw [List.flatMap_cons]
    cases k with
    | zero =>
      obtain rfl : x = r := by simpa using h
      rw [List.getElem?_append_left (by show 0 * 4 + j < 4; omega), Nat.zero_mul, Nat.zero_add]
      exact hv
    | succ k =>
      rw [List.getElem?_append_right (by show 4 ≤ (k + 1) * 4 + j; omega), show (k + 1) * 4 + j - x.cl.length = k * 4 + j by show (k + 1) * 4 + j - 4 = _; omega]
      exact ih k j r v (by simpa using h) hv
theorem rats_lit {t : TypeId} {g : Nat} {L : List RV} {w : World} (h : litG t (L.flatMap RV.cl).toArray g w) : RatsAt w g L := by
  intro k r hk j v hv
  unfold litG at h
  simp only [World.cell?, h, Option.isSome_none, Bool.false_eq_true, if_false]
  rw [List.getElem?_toArray]
  exact cl_at L k j r v hk hv
theorem RatsAt.below {w w' : World} {g : Nat} {L : List RV} (h : RatsAt w g L) (hb : Below w.heap.size w w') : RatsAt w' g L := fun k r hk j v hv => keepc hb (h k r hk j v hv)
theorem RatsAt.left {w wa : World} {g : Nat} {L : List RV} {S : List Nat} (h : RatsAt wa g L) (e2 : ∀ b, b ∉ S → wa.heap[b]? = w.heap[b]?) (hg : g ∉ S) : RatsAt w g L := fun k r hk j v hv =>
  (World.cell?_of_block (a := ⟨g, k * 4 + j, none⟩) (e2 g hg).symm).trans (h k r hk j v hv)
theorem IsN.below {v : SV} {x : Int} {K : Nat} {w w' : World} (h : IsN v x K w) (hb : Below w.heap.size w w') : IsN v x K w' := ⟨h.1.below hb, h.2.1, h.2.2.1, h.2.2.2.below hb⟩
theorem IsQN.below {r : RV} {q : Rat} {K : Nat} {w w' : World} (h : IsQN r q K w) (hb : Below w.heap.size w w') : IsQN r q K w' := ⟨h.1.below hb, h.2.below hb⟩

set_option maxRecDepth 100000 in
set_option maxHeartbeats 1000000 in
theorem rsameAll_m {g g' n c c' : Nat} {L M : List RV} {w : World} (hL : RatsAt w g L) (hM : RatsAt w g' M) (h1 : L.length = n) (h2 : M.length = n) (hn : n ≤ 1000000)
    (hs : ∀ (k : Nat) (r s : RV), L[k]? = some r → M[k]? = some s → ∃ (p : Rat) (K1 K2 : Nat), IsQN r p K1 w ∧ IsQN s p K2 w) :
    Calls Try.prog 70 #[.slice (some ⟨g, 0, none⟩) n c, .slice (some ⟨g', 0, none⟩) n c'] w (CallPost w (fun _ : Unit => .bool true) fun _ _ => True) := by
  refine Good.enter Try.func70 rfl ?_
  refine Good.run (by kernel_rfl) (stop := 1000) 1000 _ ?_
  refine Good.condr ((n : Int) != (n : Int)) false (by kernel_rfl) (by simp) ?_
  refine Good.run (by kernel_rfl) (stop := 1000) 1000 _ ?_
  refine Good.loop (ι := {k : Nat // k ≤ n}) 27 (fun i => ⟨[(0, .v (.slice (some ⟨g, 0, none⟩) n c)), (1, .v (.slice (some ⟨g', 0, none⟩) n c')), (5, .v (.int .i64 i.1))], []⟩) (fun _ _ => True) (fun i => n - i.1) (⟨0, by omega⟩) (by kernel_rfl) (fun _ => by kernel_rfl) ⟨by kernel_rfl, by kernel_rfl, by kernel_rfl⟩ (fun _ _ => trivial) ?_
  rintro ⟨k, hk⟩ gg
  by_cases hlt : k < n
  ·
    refine Good.run (by kernel_rfl) (stop := 1000) 1000 _ ?_
    refine Good.condr (decide ((k : Int) < (n : Int))) true (by kernel_rfl) (by simp; omega) ?_
    refine Good.run (by kernel_rfl) (stop := 1000) 1000 _ ?_
    obtain ⟨r, hr⟩ : ∃ r, L[k]? = some r := ⟨_, List.getElem?_eq_getElem (by omega)⟩
    obtain ⟨s, hs'⟩ : ∃ s, M[k]? = some s := ⟨_, List.getElem?_eq_getElem (by omega)⟩
    obtain ⟨p, K1, K2, hp1, hp2⟩ := hs k r s hr hs'
    refine Good.askAt 2 (idxS 39 (.slice (some ⟨g, 0, none⟩) n c) k) (.pointer (some ⟨g, k * 4, none⟩)) (by kernel_rfl) (fun w1 hw h => run_idxN (elem := 26) (by kernel_rfl) (by kernel_rfl) hlt) ?_
    refine Good.run (by kernel_rfl) (stop := 1000) 1000 _ ?_
    refine Good.askAt 3 (ldS 26 ⟨g, k * 4, none⟩) (r.val) (by kernel_rfl) (fun w1 hw h => run_ldN (vs := r.cl) (by kernel_rfl) (by kernel_rfl) (hL.below hw k r hr)) ?_
    refine Good.run (by kernel_rfl) (stop := 1000) 1000 _ ?_
    refine Good.askAt 6 (idxS 39 (.slice (some ⟨g', 0, none⟩) n c') k) (.pointer (some ⟨g', k * 4, none⟩)) (by kernel_rfl) (fun w1 hw h => run_idxN (elem := 26) (by kernel_rfl) (by kernel_rfl) hlt) ?_
    refine Good.run (by kernel_rfl) (stop := 1000) 1000 _ ?_
    refine Good.askAt 7 (ldS 26 ⟨g', k * 4, none⟩) (s.val) (by kernel_rfl) (fun w1 hw h => run_ldN (vs := s.cl) (by kernel_rfl) (by kernel_rfl) (hM.below hw k s hs')) ?_
    refine Good.run (by kernel_rfl) (stop := 1000) 1000 _ ?_
    refine Good.callv (fun w1 hw h => rsame_nn (B := true) (hp1.below hw) (hp2.below hw) (by simp)) (by kernel_rfl) (fun u => ?_)
    refine Good.run (by kernel_rfl) (stop := 1000) 1000 _ ?_
    refine Good.cond false (by kernel_rfl) ?_
    refine Good.run (by kernel_rfl) (stop := 1000) 1000 _ ?_
    refine Good.slot 5 (.int .i64 (IntKind.i64.wrap ((k : Int) + 1))) (.int .i64 ((k + 1 : Nat) : Int)) (by kernel_rfl) (by rw [wrap_succ hlt (by omega)]) ?_
    refine Good.next (⟨k + 1, by omega⟩) (by kernel_rfl) (by show n - (k + 1) < n - k; omega) ⟨by kernel_rfl, by kernel_rfl, by kernel_rfl⟩ (fun _ _ => trivial)
  ·
    refine Good.run (by kernel_rfl) (stop := 1000) 1000 _ ?_
    refine Good.condr (decide ((k : Int) < (n : Int))) false (by kernel_rfl) (by simp; omega) ?_
    refine Good.run (by kernel_rfl) (stop := 1000) 1000 _ ?_
    refine Good.leave (by kernel_rfl) ?_
    refine Good.run (by kernel_rfl) (stop := 1000) 1000 _ ?_
    refine Good.ret (v := .bool true) (by kernel_rfl) (fun w1 hw h => ⟨(), rfl, hw, fun _ _ _ => trivial⟩)

theorem make_litN {P : Program} {t elem : TypeId} {len : Nat} {parts : Array (Nat × Value)} {cells : Array Value} {w : World} {N : Nat} (h : litOf P t len parts = some (elem, cells)) (hN : N ≤ w.heap.size) :
    MakePost P w (litV len) (fun g u => litG elem cells g u ∧ N ≤ g) (litS t len parts) := by
  obtain ⟨x, w', hrun, hb, hG⟩ := MakePost.fresh (make_lit (w := w) h) (fun g => [g]) (fun g u h b hb => by
    simp only [List.mem_singleton] at hb; subst hb; exact ⟨_, _, _, h⟩)
  exact ⟨x, w', hrun, hb, fun w'' h1 h2 => ⟨(hG w'' h1 h2).1, Nat.le_trans hN ((hG w'' h1 h2).2 x (by simp))⟩⟩
/-- The fractions' blocks lie in this order, from N to M. -/
def Asc : Nat → List RV → Nat → Prop
  | N, [], M => N ≤ M
  | N, r :: L, M => ∃ N', N ≤ N' ∧ (∀ b ∈ mutL r, N ≤ b ∧ b < N') ∧ Asc N' L M
theorem Asc.le : ∀ {L : List RV} {N M : Nat}, Asc N L M → N ≤ M
  | [], _, _, h => h
  | _ :: _, _, _, ⟨_, h1, _, h3⟩ => Nat.le_trans h1 h3.le
theorem Asc.bd : ∀ {L : List RV} {N M : Nat}, Asc N L M → ∀ r ∈ L, ∀ b ∈ mutL r, N ≤ b ∧ b < M
  | [], _, _, _, _, h => by cases h
  | x :: L, N, M, ⟨N', h1, h2, h3⟩, r, hr => by
    intro b hb
    rcases List.mem_cons.1 hr with rfl | hr
    · exact ⟨(h2 b hb).1, Nat.lt_of_lt_of_le (h2 b hb).2 h3.le⟩
    · exact ⟨Nat.le_trans h1 (h3.bd r hr b hb).1, (h3.bd r hr b hb).2⟩

section
variable {a b : RV} {p q : Rat} {K K1 K2 : Nat} {w : World}
theorem isN0q (w : World) : IsI SV0 0 0 w := ⟨In.nil_, rfl, Nat.le_refl _⟩
theorem rsame_quo {r s : RV} (hr : IsQuo r p q K1 w) (hs : IsQuo s p q K2 w) : Calls Try.prog 21 #[r.val, s.val] w (CallPost w (fun _ : Unit => .bool true) fun _ _ => True) := by
  unfold IsQuo at hr hs
  split at hr
  · rename_i h0
    rw [if_pos h0] at hs
    subst hr; subst hs
    exact rsame_v (K := 0) (K1 := 0) (x := 0) (y := 0) (z := 0) (t := 0) (by decide) (isN0q w) (isN0q w) (isN0q w) (isN0q w)
  · rename_i h0
    rw [if_neg h0] at hs
    exact rsame_nn hr hs (by simp)
theorem rqquo_e {e : Int} (he : (if q = 0 then 9 else 0) = e) (ha : IsQ a p K1 w) (hb : IsQ b q K2 w) (hK : 2 ≤ K1 ∧ 2 ≤ K2 ∧ K1 + K2 ≤ 1073741820) :
    Calls Try.prog 66 #[a.val, b.val] w (CallPost w (EVal e) fun r w => IsQuo r p q (K1 + K2) w) := by subst he; exact rqquo_m ha hb hK
theorem rqcmp_v {v : Int} (hv : cmpQ p q = v) (ha : IsQ a p K1 w) (hb : IsQ b q K2 w) (hK : 2 ≤ K1 ∧ 2 ≤ K2 ∧ K1 + K2 ≤ 1073741824) :
    Calls Try.prog 67 #[a.val, b.val] w (CallPost w (fun _ : Unit => .int .i64 v) fun _ _ => True) := by subst hv; exact rqcmp_m ha hb hK
theorem mem_drop_succ {L : List RV} {k : Nat} {r : RV} (hr : L[k]? = some r) : L.drop k = r :: L.drop (k + 1) := by
  obtain ⟨h, rfl⟩ := List.getElem?_eq_some_iff.1 hr
  exact List.drop_eq_getElem_cons h
theorem pairs5 {w : World} {r1 r2 r3 r4 r5 s1 s2 s3 s4 s5 : RV} (h1 : ∃ (p : Rat) (K1 K2 : Nat), IsQN r1 p K1 w ∧ IsQN s1 p K2 w) (h2 : ∃ (p : Rat) (K1 K2 : Nat), IsQN r2 p K1 w ∧ IsQN s2 p K2 w) (h3 : ∃ (p : Rat) (K1 K2 : Nat), IsQN r3 p K1 w ∧ IsQN s3 p K2 w) (h4 : ∃ (p : Rat) (K1 K2 : Nat), IsQN r4 p K1 w ∧ IsQN s4 p K2 w) (h5 : ∃ (p : Rat) (K1 K2 : Nat), IsQN r5 p K1 w ∧ IsQN s5 p K2 w) :
    ∀ (k : Nat) (r s : RV), [r1, r2, r3, r4, r5][k]? = some r → [s1, s2, s3, s4, s5][k]? = some s → ∃ (p : Rat) (K1 K2 : Nat), IsQN r p K1 w ∧ IsQN s p K2 w := by
  intro k r s hk hs
  rcases k with _ | _ | _ | _ | _ | k
  · cases hk; cases hs; exact h1
  · cases hk; cases hs; exact h2
  · cases hk; cases hs; exact h3
  · cases hk; cases hs; exact h4
  · cases hk; cases hs; exact h5
  · cases hk
/-- What the overwriting loop keeps. -/
structure OvI (W : World) (x y : RV) (g : Nat) (L : List RV) (k : Nat) (u : World) : Prop where
  ox : OwnR x u
  oy : OwnR y u
  row : RatsAt u g L
  own : ∀ r ∈ L.drop k, OwnR r u
  asc : ∃ N, W.heap.size ≤ N ∧ (∀ b ∈ mutL x, b < N) ∧ (∀ b ∈ mutL y, b < N) ∧ Asc N (L.drop k) g
theorem OvI.head {W : World} {x y r : RV} {g k : Nat} {L : List RV} {u : World} (h : OvI W x y g L k u) (hr : L[k]? = some r) : OwnR r u ∧ ∀ b ∈ mutL r, W.heap.size ≤ b := by
  have hm : r ∈ L.drop k := by rw [mem_drop_succ hr]; exact List.mem_cons_self
  obtain ⟨N, h1, _, _, h4⟩ := h.asc
  exact ⟨h.own r hm, fun b hb => Nat.le_trans h1 (h4.bd r hm b hb).1⟩
theorem OvI.left {W : World} {x y r : RV} {g k : Nat} {L : List RV} {u wa : World} (h : OvI W x y g L k wa) (hr : L[k]? = some r) (e1 : wa.heap.size = u.heap.size) (e2 : ∀ b, b ∉ mutL r → wa.heap[b]? = u.heap[b]?) : OvI W x y g L (k + 1) u := by
  have hd := mem_drop_succ hr
  obtain ⟨N, h1, h2, h3, h4⟩ := h.asc
  rw [hd] at h4
  obtain ⟨N', h5, h6, h7⟩ := h4
  refine ⟨h.ox.left e1 e2 fun b hb hb' => ?_, h.oy.left e1 e2 fun b hb hb' => ?_, h.row.left e2 fun hg => ?_, fun s hs => (h.own s (by rw [hd]; exact List.mem_cons_of_mem _ hs)).left e1 e2 fun b hb hb' => ?_, N', by omega, fun b hb => ?_, fun b hb => ?_, h7⟩
  · have := h2 b hb; have := h6 b hb'; omega
  · have := h3 b hb; have := h6 b hb'; omega
  · have := h6 g hg; have := h7.le; omega
  · have := h6 b hb'; have := (h7.bd s hs b hb).1; omega
  · have := h2 b hb; omega
  · have := h3 b hb; omega

set_option maxRecDepth 100000 in
set_option maxHeartbeats 4000000 in
theorem lawArithmetic {x y z t : Int} (h1 : IsI a.a x K1 w) (h2 : IsI a.b y K1 w) (h3 : IsI b.a z K2 w) (h4 : IsI b.b t K2 w) :
    Calls Try.prog 12 #[a.val, b.val] w (CallPost w (fun _ : Unit => .bool true) fun _ _ => True) := by
  cases hsa : smallB a
  case false =>
    refine Good.enter Try.func12 rfl ?_
    refine Good.run (by kernel_rfl) (stop := 1000) 1000 _ ?_
    refine Good.callv (fun w1 hw h => small_v hsa) (by kernel_rfl) (fun u => ?_)
    refine Good.run (by kernel_rfl) (stop := 1000) 1000 _ ?_
    refine Good.cond true (by kernel_rfl) ?_
    refine Good.run (by kernel_rfl) (stop := 1000) 1000 _ ?_
    refine Good.callv (fun w1 hw h => qexample_m w1) (by kernel_rfl) (fun u => ?_)
    refine Good.run (by kernel_rfl) (stop := 1000) 1000 _ ?_
    refine Good.ret (v := .bool true) (by kernel_rfl) (fun w1 hw h => ⟨(), rfl, hw, fun _ _ _ => trivial⟩)
  cases hsb : smallB b
  case false =>
    refine Good.enter Try.func12 rfl ?_
    refine Good.run (by kernel_rfl) (stop := 1000) 1000 _ ?_
    refine Good.callv (fun w1 hw h => small_v hsa) (by kernel_rfl) (fun u => ?_)
    refine Good.run (by kernel_rfl) (stop := 1000) 1000 _ ?_
    refine Good.callv (fun w1 hw h => small_v hsb) (by kernel_rfl) (fun u => ?_)
    refine Good.run (by kernel_rfl) (stop := 1000) 1000 _ ?_
    refine Good.cond true (by kernel_rfl) ?_
    refine Good.run (by kernel_rfl) (stop := 1000) 1000 _ ?_
    refine Good.callv (fun w1 hw h => qexample_m w1) (by kernel_rfl) (fun u => ?_)
    refine Good.run (by kernel_rfl) (stop := 1000) 1000 _ ?_
    refine Good.ret (v := .bool true) (by kernel_rfl) (fun w1 hw h => ⟨(), rfl, hw, fun _ _ _ => trivial⟩)
  have ia : IsI a.a x 40 w ∧ IsI a.b y 40 w := by
    simp only [smallB, Bool.and_eq_true, decide_eq_true_eq] at hsa
    exact ⟨⟨h1.inn, h1.zi, hsa.1⟩, ⟨h2.inn, h2.zi, hsa.2⟩⟩
  have ib : IsI b.a z 40 w ∧ IsI b.b t 40 w := by
    simp only [smallB, Bool.and_eq_true, decide_eq_true_eq] at hsb
    exact ⟨⟨h3.inn, h3.zi, hsb.1⟩, ⟨h4.inn, h4.zi, hsb.2⟩⟩
  obtain ⟨p, hp⟩ : ∃ p, p = Rat.divInt x y := ⟨_, rfl⟩
  obtain ⟨q, hq⟩ : ∃ q, q = Rat.divInt z t := ⟨_, rfl⟩
  have ha : IsQ a p 40 w := ⟨x, y, ia.1, ia.2, hp⟩
  have hb : IsQ b q 40 w := ⟨z, t, ib.1, ib.2, hq⟩
  have hX : ∀ {o : (Option Addr × Nat) × (Option Addr × Nat)} {u : World}, OwnR (cpV a o) u → IsQ (cpV a o) p 40 u := fun h => ⟨x, y, (h.i ia.1 ia.2).1, (h.i ia.1 ia.2).2, hp⟩
  have hY : ∀ {o : (Option Addr × Nat) × (Option Addr × Nat)} {u : World}, OwnR (cpV b o) u → IsQ (cpV b o) q 40 u := fun h => ⟨z, t, (h.i ib.1 ib.2).1, (h.i ib.1 ib.2).2, hq⟩
  obtain ⟨e, he⟩ : ∃ e : Int, (if q = 0 then 9 else 0) = e := ⟨_, rfl⟩
  obtain ⟨v, hv⟩ : ∃ v : Int, cmpQ p q = v := ⟨_, rfl⟩
  refine Good.enter Try.func12 rfl ?_
  refine Good.run (by kernel_rfl) (stop := 1000) 1000 _ ?_
  refine Good.callv (fun w1 hw h => small_v hsa) (by kernel_rfl) (fun u => ?_)
  refine Good.run (by kernel_rfl) (stop := 1000) 1000 _ ?_
  refine Good.callv (fun w1 hw h => small_v hsb) (by kernel_rfl) (fun u => ?_)
  refine Good.run (by kernel_rfl) (stop := 1000) 1000 _ ?_
  refine Good.cond false (by kernel_rfl) ?_
  refine Good.run (by kernel_rfl) (stop := 1000) 1000 _ ?_
  refine Good.callv (fun w1 hw h => qclone_f (ia.1.below hw) (ia.2.below hw) hw.size) (by kernel_rfl) (fun o => ?_)
  refine Good.run (by kernel_rfl) (stop := 1000) 1000 _ ?_
  refine Good.callv (fun w1 hw h => qclone_f (ib.1.below hw) (ib.2.below hw) h.2.2.2.1) (by kernel_rfl) (fun o2 => ?_)
  refine Good.run (by kernel_rfl) (stop := 1000) 1000 _ ?_
  refine Good.callv (fun w1 hw h => freshE (qquo_e he (hX h.1.2.1) (hY h.2.1) (by decide)) (fun _ _ k => k.own) h.2.2.2.1) (by kernel_rfl) (fun r => ?_)
  refine Good.run (by kernel_rfl) (stop := 1000) 1000 _ ?_
  refine Good.callv (fun w1 hw h => rqquo_e he (ha.below hw) (hb.below hw) (by decide)) (by kernel_rfl) (fun s => ?_)
  refine Good.run (by kernel_rfl) (stop := 1000) 1000 _ ?_
  refine Good.callv (fun w1 hw h => qcmp_v hv (hX h.1.1.1.2.1) (hY h.1.1.2.1) (by decide)) (by kernel_rfl) (fun u => ?_)
  refine Good.run (by kernel_rfl) (stop := 1000) 1000 _ ?_
  refine Good.callv (fun w1 hw h => rqcmp_v hv (ha.below hw) (hb.below hw) (by decide)) (by kernel_rfl) (fun u => ?_)
  refine Good.run (by kernel_rfl) (stop := 7) 1000 _ ?_
  refine Good.slot 44 (.bool (v != v)) (.bool false) (by kernel_rfl) (by simp) ?_
  refine Good.run (by kernel_rfl) (stop := 1000) 1000 _ ?_
  refine Good.callv (fun w1 hw h => rsame_quo h.1.1.1.2.1 h.1.1.2) (by kernel_rfl) (fun u => ?_)
  refine Good.run (by kernel_rfl) (stop := 17) 1000 _ ?_
  refine Good.slot 54 (.bool (e != e)) (.bool false) (by kernel_rfl) (by simp) ?_
  refine Good.run (by kernel_rfl) (stop := 1000) 1000 _ ?_
  refine Good.cond false (by kernel_rfl) ?_
  refine Good.run (by kernel_rfl) (stop := 1000) 1000 _ ?_
  refine Good.callv (fun w1 hw h => freshE (qneg_m (hX h.1.1.1.1.1.1.2.1) (by decide)) (fun _ _ k => k.own) h.1.1.1.1.2.2.2.1) (by kernel_rfl) (fun n1 => ?_)
  refine Good.run (by kernel_rfl) (stop := 1000) 1000 _ ?_
  refine Good.callv (fun w1 hw h => freshE (qadd_m (hX h.1.1.1.1.1.1.1.2.1) (hY h.1.1.1.1.1.1.2.1) (by decide)) (fun _ _ k => k.own) h.2.2.2.1) (by kernel_rfl) (fun n2 => ?_)
  refine Good.run (by kernel_rfl) (stop := 1000) 1000 _ ?_
  refine Good.callv (fun w1 hw h => freshE (qsub_m (hX h.1.1.1.1.1.1.1.1.2.1) (hY h.1.1.1.1.1.1.1.2.1) (by decide)) (fun _ _ k => k.own) h.2.2.2.1) (by kernel_rfl) (fun n3 => ?_)
  refine Good.run (by kernel_rfl) (stop := 1000) 1000 _ ?_
  refine Good.callv (fun w1 hw h => freshE (qmul_m (hX h.1.1.1.1.1.1.1.1.1.2.1) (hY h.1.1.1.1.1.1.1.1.2.1) (by decide)) (fun _ _ k => k.own) h.2.2.2.1) (by kernel_rfl) (fun n4 => ?_)
  refine Good.run (by kernel_rfl) (stop := 1000) 1000 _ ?_
  refine Good.callv (fun w1 hw h => freshE (qmid_m (hX h.1.1.1.1.1.1.1.1.1.1.2.1) (hY h.1.1.1.1.1.1.1.1.1.2.1) (by decide)) (fun _ _ k => k.own) h.2.2.2.1) (by kernel_rfl) (fun n5 => ?_)
  refine Good.run (by kernel_rfl) (stop := 1000) 1000 _ ?_
  refine Good.make (litS 39 5 #[(0, n1.1.val), (1, n2.1.val), (2, n3.1.val), (3, n4.1.val), (4, n5.1.val)]) (litV 5) (fun g u => litG 26 ([n1.1, n2.1, n3.1, n4.1, n5.1].flatMap RV.cl).toArray g u ∧ n5.2 ≤ g) (by kernel_rfl) (fun w1 hw h => make_litN (by kernel_rfl) h.2.2.2.1) (fun g => ?_)
  refine Good.run (by kernel_rfl) (stop := 1000) 1000 _ ?_
  refine Good.callv (fun w1 hw h => rqneg_m (ha.below hw) (by decide)) (by kernel_rfl) (fun m1 => ?_)
  refine Good.run (by kernel_rfl) (stop := 1000) 1000 _ ?_
  refine Good.callv (fun w1 hw h => rqadd_m (ha.below hw) (hb.below hw) (by decide)) (by kernel_rfl) (fun m2 => ?_)
  refine Good.run (by kernel_rfl) (stop := 1000) 1000 _ ?_
  refine Good.callv (fun w1 hw h => rqsub_m (ha.below hw) (hb.below hw) (by decide)) (by kernel_rfl) (fun m3 => ?_)
  refine Good.run (by kernel_rfl) (stop := 1000) 1000 _ ?_
  refine Good.callv (fun w1 hw h => rqmul_m (ha.below hw) (hb.below hw) (by decide)) (by kernel_rfl) (fun m4 => ?_)
  refine Good.run (by kernel_rfl) (stop := 1000) 1000 _ ?_
  refine Good.callv (fun w1 hw h => rqmid_m (ha.below hw) (hb.below hw) (by decide)) (by kernel_rfl) (fun m5 => ?_)
  refine Good.run (by kernel_rfl) (stop := 1000) 1000 _ ?_
  refine Good.make (litS 39 5 #[(0, m1.val), (1, m2.val), (2, m3.val), (3, m4.val), (4, m5.val)]) (litV 5) (litG 26 ([m1, m2, m3, m4, m5].flatMap RV.cl).toArray) (by kernel_rfl) (fun w1 hw h => make_lit (by kernel_rfl)) (fun g2 => ?_)
  refine Good.run (by kernel_rfl) (stop := 1000) 1000 _ ?_
  refine Good.callv (fun w1 hw h => rsameAll_m (g := g) (g' := g2) (n := 5) (c := 5) (c' := 5) (L := [n1.1, n2.1, n3.1, n4.1, n5.1]) (M := [m1, m2, m3, m4, m5]) (rats_lit h.1.1.1.1.1.1.2.1) (rats_lit h.2) rfl rfl (by decide) (pairs5 ⟨_, _, _, h.1.1.1.1.1.1.1.1.1.1.1.2.1, h.1.1.1.1.1.2⟩ ⟨_, _, _, h.1.1.1.1.1.1.1.1.1.1.2.1, h.1.1.1.1.2⟩ ⟨_, _, _, h.1.1.1.1.1.1.1.1.1.2.1, h.1.1.1.2⟩ ⟨_, _, _, h.1.1.1.1.1.1.1.1.2.1, h.1.1.2⟩ ⟨_, _, _, h.1.1.1.1.1.1.1.2.1, h.1.2⟩)) (by kernel_rfl) (fun u => ?_)
  refine Good.run (by kernel_rfl) (stop := 1000) 1000 _ ?_
  refine Good.cond false (by kernel_rfl) ?_
  refine Good.run (by kernel_rfl) (stop := 1000) 1000 _ ?_
  refine Good.mut (L := mutL r.1) (Φ' := fun _ u => OvI w (cpV a o.1) (cpV b o2.1) g [n1.1, n2.1, n3.1, n4.1, n5.1] 0 u) (fun w1 hw h => qoverwrite_c w1 h.1.1.1.1.1.1.1.1.1.1.1.1.1.1.1.1.1.2.1.own.1 h.1.1.1.1.1.1.1.1.1.1.1.1.1.1.1.1.1.2.1.own.2) (fun u h b hb => ⟨Nat.le_trans (Nat.le_trans h.1.1.1.1.1.1.1.1.1.1.1.1.1.1.1.1.1.1.1.2.2.2.2 h.1.1.1.1.1.1.1.1.1.1.1.1.1.1.1.1.1.1.2.2.2.2) (h.1.1.1.1.1.1.1.1.1.1.1.1.1.1.1.1.1.2.2.1 b hb).1, h.1.1.1.1.1.1.1.1.1.1.1.1.1.1.1.1.1.2.1.own.blk b hb⟩) (fun _ wa u e1 e2 h hG => ?_) (by kernel_rfl) (by kernel_rfl) (fun _ => ?_)
  · have hasc : Asc r.2 [n1.1, n2.1, n3.1, n4.1, n5.1] g := ⟨n1.2, h.1.1.1.1.1.1.1.1.1.1.1.1.2.2.2.2, h.1.1.1.1.1.1.1.1.1.1.1.1.2.2.1, n2.2, h.1.1.1.1.1.1.1.1.1.1.1.2.2.2.2, h.1.1.1.1.1.1.1.1.1.1.1.2.2.1, n3.2, h.1.1.1.1.1.1.1.1.1.1.2.2.2.2, h.1.1.1.1.1.1.1.1.1.1.2.2.1, n4.2, h.1.1.1.1.1.1.1.1.1.2.2.2.2, h.1.1.1.1.1.1.1.1.1.2.2.1, n5.2, h.1.1.1.1.1.1.1.1.2.2.2.2, h.1.1.1.1.1.1.1.1.2.2.1, h.1.1.1.1.1.1.1.2.2⟩
    have hr := h.1.1.1.1.1.1.1.1.1.1.1.1.1.1.1.1.1.2.2.1
    have k1 : o.2 ≤ o2.2 := h.1.1.1.1.1.1.1.1.1.1.1.1.1.1.1.1.1.1.2.2.2.2
    have k2 : o2.2 ≤ r.2 := h.1.1.1.1.1.1.1.1.1.1.1.1.1.1.1.1.1.2.2.2.2
    refine ⟨h.1.1.1.1.1.1.1.1.1.1.1.1.1.1.1.1.1.1.1.2.1.left e1 e2 fun b hb hb' => ?_, h.1.1.1.1.1.1.1.1.1.1.1.1.1.1.1.1.1.1.2.1.left e1 e2 fun b hb hb' => ?_, (rats_lit h.1.1.1.1.1.1.1.2.1).left e2 fun hg => ?_, fun s hs => ?_, r.2, ?_, fun b hb => ?_, fun b hb => ?_, hasc⟩
    · have := (h.1.1.1.1.1.1.1.1.1.1.1.1.1.1.1.1.1.1.1.2.2.1 b hb).2
      have := (hr b hb').1
      omega
    · have := (h.1.1.1.1.1.1.1.1.1.1.1.1.1.1.1.1.1.1.2.2.1 b hb).2
      have := (hr b hb').1
      omega
    · have := (hr g hg).2
      have := hasc.le
      omega
    · have hown : OwnR s wa := by
        simp only [List.drop_zero, List.mem_cons, List.not_mem_nil, or_false] at hs
        rcases hs with rfl | rfl | rfl | rfl | rfl
        · exact h.1.1.1.1.1.1.1.1.1.1.1.1.2.1.own
        · exact h.1.1.1.1.1.1.1.1.1.1.1.2.1.own
        · exact h.1.1.1.1.1.1.1.1.1.1.2.1.own
        · exact h.1.1.1.1.1.1.1.1.1.2.1.own
        · exact h.1.1.1.1.1.1.1.1.2.1.own
      exact hown.left e1 e2 fun b hb hb' => by
        have := (hasc.bd s hs b hb).1
        have := (hr b hb').2
        omega
    · exact Nat.le_trans h.1.1.1.1.1.1.1.1.1.1.1.1.1.1.1.1.1.1.1.2.2.2.2 (Nat.le_trans k1 k2)
    · have := (h.1.1.1.1.1.1.1.1.1.1.1.1.1.1.1.1.1.1.1.2.2.1 b hb).2
      omega
    · have := (h.1.1.1.1.1.1.1.1.1.1.1.1.1.1.1.1.1.1.2.2.1 b hb).2
      omega
  refine Good.run (by kernel_rfl) (stop := 1000) 1000 _ ?_
  obtain ⟨L, hL⟩ : ∃ L, L = [n1.1, n2.1, n3.1, n4.1, n5.1] := ⟨_, rfl⟩
  have hLn : L.length = 5 := by rw [hL]; rfl
  rw [← hL]
  refine Good.loop (ι := {k : Nat // k ≤ 5}) 113 (fun i => ⟨[(2, .p 2 0), (3, .p 3 0), (5, .p 5 0), (6, .p 6 0), (11, .v (litV 5 g)), (92, .v (.int .i64 5)), (93, .v (.int .i64 i.1))], [(2, a.cl.map .v), (3, b.cl.map .v), (5, (cpV a o.1).cl.map .v), (6, (cpV b o2.1).cl.map .v)]⟩) (fun i => OvI w (cpV a o.1) (cpV b o2.1) g L i.1) (fun i => 5 - i.1) (⟨0, by omega⟩) (by kernel_rfl) (fun _ => by kernel_rfl) ⟨by kernel_rfl, by kernel_rfl, by kernel_rfl⟩ (fun _ h => h) ?_
  rintro ⟨k, hk⟩ gg
  by_cases hlt : k < 5
  ·
    refine Good.run (by kernel_rfl) (stop := 1000) 1000 _ ?_
    refine Good.condr (decide ((k : Int) < 5)) true (by kernel_rfl) (by simp; omega) ?_
    refine Good.run (by kernel_rfl) (stop := 1000) 1000 _ ?_
    obtain ⟨rr, hr⟩ : ∃ rr, L[k]? = some rr := ⟨_, List.getElem?_eq_getElem (by omega)⟩
    refine Good.ask (idxS 39 (litV 5 g) k) (.pointer (some ⟨g, k * 4, none⟩)) (by kernel_rfl) (fun w1 hw h => run_idxN (elem := 26) (by kernel_rfl) (by kernel_rfl) hlt) ?_
    refine Good.run (by kernel_rfl) (stop := 1000) 1000 _ ?_
    refine Good.ask (ldS 26 ⟨g, k * 4, none⟩) (rr.val) (by kernel_rfl) (fun w1 hw h => run_ldN (vs := rr.cl) (by kernel_rfl) (by kernel_rfl) (h.row k rr hr)) ?_
    refine Good.run (by kernel_rfl) (stop := 1000) 1000 _ ?_
    refine Good.mut (L := mutL rr) (Φ' := fun _ u => OvI w (cpV a o.1) (cpV b o2.1) g L (k + 1) u) (fun w1 hw h => qoverwrite_c w1 (h.head hr).1.1 (h.head hr).1.2) (fun u h b hb => ⟨(h.head hr).2 b hb, (h.head hr).1.blk b hb⟩) (fun _ wa u e1 e2 h hG => h.left hr e1 e2) (by kernel_rfl) (by kernel_rfl) (fun _ => ?_)
    refine Good.run (by kernel_rfl) (stop := 1000) 1000 _ ?_
    refine Good.slot 93 (.int .i64 (IntKind.i64.wrap ((k : Int) + 1))) (.int .i64 ((k + 1 : Nat) : Int)) (by kernel_rfl) (by rw [wrap_succ hlt (by omega)]) ?_
    refine Good.next (⟨k + 1, by omega⟩) (by kernel_rfl) (by show 5 - (k + 1) < 5 - k; omega) ⟨by kernel_rfl, by kernel_rfl, by kernel_rfl⟩ (fun _ h => h)
  ·
    refine Good.run (by kernel_rfl) (stop := 1000) 1000 _ ?_
    refine Good.condr (decide ((k : Int) < 5)) false (by kernel_rfl) (by simp; omega) ?_
    refine Good.run (by kernel_rfl) (stop := 1000) 1000 _ ?_
    refine Good.leave (by kernel_rfl) ?_
    refine Good.run (by kernel_rfl) (stop := 1000) 1000 _ ?_
    refine Good.callv (fun w1 hw h => rsame_v (a := cpV a o.1) (b := a) (sameQB_cp o.1) (h.ox.i ia.1 ia.2).1 (h.ox.i ia.1 ia.2).2 (ia.1.below hw) (ia.2.below hw)) (by kernel_rfl) (fun u => ?_)
    refine Good.run (by kernel_rfl) (stop := 1000) 1000 _ ?_
    refine Good.callv (fun w1 hw h => rsame_v (a := cpV b o2.1) (b := b) (sameQB_cp o2.1) (h.1.oy.i ib.1 ib.2).1 (h.1.oy.i ib.1 ib.2).2 (ib.1.below hw) (ib.2.below hw)) (by kernel_rfl) (fun u => ?_)
    refine Good.run (by kernel_rfl) (stop := 1000) 1000 _ ?_
    refine Good.callv (fun w1 hw h => qexample_m w1) (by kernel_rfl) (fun u => ?_)
    refine Good.run (by kernel_rfl) (stop := 1000) 1000 _ ?_
    refine Good.ret (v := .bool true) (by kernel_rfl) (fun w1 hw h => ⟨(), rfl, hw, fun _ _ _ => trivial⟩)
end

end Go.Proofs.Ytjdcolaefhheaaa
