/-
  The law of sums.
-/
import Derived.Test.YtjdcolaefhheaaaQp
namespace Go.Proofs.Ytjdcolaefhheaaa
set_option linter.unusedVariables false
set_option linter.unusedSimpArgs false
open Go.RowKit

section
variable {a b : RV} {p q : Rat} {K K1 K2 : Nat} {w W : World}
def qOf (r : RV) : Rat := Rat.divInt (zi r.a.s (val r.a.l)) (zi r.b.s (val r.b.l))
/-- A slice of fractions' structs that came in. -/
structure RowG (w : World) (A : Option Addr) (n : Nat) (L : List RV) : Prop where
  len : L.length = n
  cells : ∀ (k : Nat) (r : RV), L[k]? = some r → ∃ ad : Addr, A = some ad ∧ ∀ (j : Nat) (v : Value), r.cl[j]? = some v → w.cell? ((ad.add (k * 4)).add j) = some v
  elems : ∀ r ∈ L, In w r.a.A r.a.n r.a.c r.a.l ∧ In w r.b.A r.b.n r.b.c r.b.l
theorem small_q {r : RV} (h : In w r.a.A r.a.n r.a.c r.a.l ∧ In w r.b.A r.b.n r.b.c r.b.l) (hs : smallB r = true) : IsQ r (qOf r) 40 w := by
  simp only [smallB, Bool.and_eq_true, decide_eq_true_eq] at hs
  exact ⟨_, _, ⟨h.1, rfl, hs.1⟩, ⟨h.2, rfl, hs.2⟩, rfl⟩
theorem RowG.f {A : Option Addr} {n : Nat} {L : List RV} (h : RowG w A n L) (hs : ∀ r ∈ L, smallB r = true) : RowF w A n L (L.map qOf) :=
  ⟨h.len, by simp [h.len], h.cells, fun k r p h1 h2 => by
    rw [List.getElem?_map, h1] at h2
    injection h2 with h2
    subst h2
    have hm := List.mem_of_getElem? h1
    exact small_q (h.elems r hm) (hs r hm)⟩
theorem RowF.below {A : Option Addr} {n : Nat} {L : List RV} {ps : List Rat} {w' : World} (h : RowF w A n L ps) (hb : Below w.heap.size w w') : RowF w' A n L ps :=
  ⟨h.len, h.lenp, fun k r hk => by obtain ⟨ad, h1, h2⟩ := h.cells k r hk; exact ⟨ad, h1, fun j v hv => keepc hb (h2 j v hv)⟩, fun k r p h1 h2 => (h.elems k r p h1 h2).below hb⟩
theorem foldl_acc : ∀ (l : List Rat) (a : Rat), l.foldl (· + ·) a = a + l.foldl (· + ·) 0
  | [], a => by simp only [List.foldl_nil]; grind
  | x :: l, a => by
    simp only [List.foldl_cons]
    rw [foldl_acc l (a + x), foldl_acc l (0 + x)]
    grind
theorem foldl_rev : ∀ (l : List Rat), l.reverse.foldl (· + ·) 0 = l.foldl (· + ·) 0
  | [] => rfl
  | x :: l => by
    rw [List.reverse_cons, List.foldl_append, foldl_rev l]
    simp only [List.foldl_cons, List.foldl_nil]
    rw [foldl_acc l (0 + x)]
    grind
theorem sumTo_all {ps : List Rat} {n : Nat} (h : ps.length = n) : sumTo ps n = ps.foldl (· + ·) 0 := by unfold sumTo; rw [List.take_of_length_le (by omega)]
theorem sumTo_rev {ps : List Rat} {n : Nat} (h : ps.length = n) : sumTo ps.reverse n = sumTo ps n := by
  rw [sumTo_all (by simp [h]), sumTo_all h, foldl_rev]
/-- The copy that grows: an own row of structs. -/
def BackAt (B : Nat) (A : Option Addr) (c : Nat) (M : List RV) (u : World) : Prop := u.ownsRow B 26 4 (.slice A M.length c) M.length (M.flatMap RV.cl)
def bl (A : Option Addr) : List Nat := match A with | some p => [p.block] | none => []
theorem BackAt.blk {B c : Nat} {A : Option Addr} {M : List RV} {u : World} (h : BackAt B A c M u) : ∀ b ∈ bl A, B ≤ b ∧ ∃ cs ty own, u.heap[b]? = some (.cells cs ty own) := by
  intro b hb
  rcases h.2 with ⟨h1, _⟩ | ⟨g, cap, cur, h1, hB, hh, _⟩
  · injection h1 with h1 _ _
    subst h1; cases hb
  · injection h1 with h1 _ _
    subst h1
    simp only [bl, List.mem_singleton] at hb
    subst hb
    exact ⟨hB, _, _, _, hh⟩
set_option maxRecDepth 20000 in
theorem append_m {B c g : Nat} {A : Option Addr} {M : List RV} {x : RV} {t : TypeId} (h : BackAt B A c M w) (hB : B ≤ w.heap.size) (hx : litG t x.cl.toArray g w) (hM : M.length ≤ 1000) :
    MutRun Try.prog w (bl A) (fun y : Option Addr × Nat => .slice y.1 (M.length + 1) y.2) (fun y u => BackAt B y.1 y.2 (M ++ [x]) u) (appS 39 39 (.slice A M.length c) (litV 1 g)) := by
  obtain ⟨i, hi, hz, hs, hby⟩ : ∃ i, Try.prog.info? 26 = some i ∧ i.zero = some RV0.val ∧ i.size = 4 ∧ i.bytes = 64 := by
    have hmap : (Try.prog.info? 26).map (fun i => (i.zero, i.size, i.bytes)) = some (some RV0.val, 4, 64) := by kernel_rfl
    cases hi : Try.prog.info? 26 with
    | none => rw [hi] at hmap; cases hmap
    | some i =>
      rw [hi] at hmap
      simp only [Option.map_some, Option.some.injEq, Prod.mk.injEq] at hmap
      exact ⟨i, rfl, hmap.1, hmap.2.1, hmap.2.2⟩
  have hr : Reads w w.heap.size 4 (some ⟨g, 0, none⟩) 1 x.cl := by
    refine ⟨rfl, fun _ => ⟨_, rfl, (Array.getElem?_eq_some_iff.1 hx).1, fun j u hu => ?_⟩⟩
    rw [Addr.add_mid, Nat.zero_add]
    unfold litG at hx
    simp only [World.cell?, hx, Option.isSome_none, Bool.false_eq_true, if_false]
    simpa using hu
  obtain ⟨v', w', hrun, h2, h3, h4⟩ := run_append_any (P := Try.prog) w B 39 39 26 i _ 4 64 (by kernel_rfl) hi hz hs hby rfl (by omega) _ M.length _ h w.heap.size (some ⟨g, 0, none⟩) 1 1 x.cl hr (by intro u hu; simp [RV.cl] at hu; rcases hu with rfl | rfl | rfl | rfl <;> rfl) (by simp only [maxLen]; omega) (by omega) hB
  have hcl : (M ++ [x]).flatMap RV.cl = M.flatMap RV.cl ++ x.cl := by simp
  have hlen : (M ++ [x]).length = M.length + 1 := by simp
  obtain ⟨A', c', rfl⟩ : ∃ A' c', v' = .slice A' (M.length + 1) c' := by
    rcases h2.2 with ⟨_, h0⟩ | ⟨g, cap, cur, h5, _⟩
    · exact absurd h0 (Nat.succ_ne_zero _)
    · exact ⟨_, _, h5⟩
  have hbk : BackAt B A' c' (M ++ [x]) w' := by unfold BackAt; rw [hcl, hlen]; exact h2
  refine ⟨(A', c'), w', by simp only [appS, Sem.run_bind, litV, hrun, Result.andThen_ok, Sem.run_pure], ⟨h3.os, h3.tape, h3.output, h3.size, fun k hk hL => h3.block k hk (fun e => hL ?_)⟩, fun w'' k1 k2 => ?_⟩
  · cases A with
    | none => simp [Value.ownBlock] at e
    | some p => simp [Value.ownBlock] at e; simp [bl, e]
  · refine ⟨hbk.1, ?_⟩
    rcases hbk.2 with h5 | ⟨g', cap, cur, h5, hg', hh, rest⟩
    · exact .inl h5
    · refine .inr ⟨g', cap, cur, h5, hg', ?_, rest⟩
      injection h5 with h5 _ _
      subst h5
      rw [k2 g' ?_]; exact hh
      rcases h4 with e | e
      · left
        cases A with
        | none => simp [Value.ownBlock] at e
        | some p => simp [Value.ownBlock] at e; simp [bl, e]
      · right
        simp [Value.ownBlock] at e
        exact ⟨by omega, (Array.getElem?_eq_some_iff.1 hh).1⟩
/-- The finished copy, read. -/
theorem BackAt.g {B c : Nat} {A : Option Addr} {M : List RV} {u : World} (h : BackAt B A c M u) : ∀ (k : Nat) (r : RV), M[k]? = some r → ∃ ad : Addr, A = some ad ∧ ∀ (j : Nat) (v : Value), r.cl[j]? = some v → u.cell? ((ad.add (k * 4)).add j) = some v := by
  intro k r hk
  have hkl : k < M.length := (List.getElem?_eq_some_iff.1 hk).1
  rcases h.2 with ⟨_, h0⟩ | ⟨g, cap, cur, h5, hB, hh, hn, hc, hs, ht⟩
  · omega
  · injection h5 with h5 _ _
    refine ⟨_, h5, fun j v hv => ?_⟩
    have hj : j < 4 := (List.getElem?_eq_some_iff.1 hv).1
    have h1 := cl_at M k j r v hk hv
    rw [← ht, List.getElem?_take] at h1
    rw [Addr.add_mid, Addr.add_mid, Nat.zero_add]
    simp only [World.cell?, hh, Option.isSome_none, Bool.false_eq_true, if_false]
    split at h1
    · simpa using h1
    · cases h1

theorem back_f {B n c : Nat} {A A0 : Option Addr} {M L : List RV} {u : World} (h : BackAt B A c M u) (hl : RowG w A0 n L) (hML : M = L.reverse) (hsm : ∀ r ∈ M, smallB r = true) (hw : Below w.heap.size w u) : RowF u A M.length M (L.map qOf).reverse :=
  ⟨rfl, by simp [hML], h.g, fun k r p h1 h2 => by
    have h3 : M.map qOf = (L.map qOf).reverse := by rw [hML, List.map_reverse]
    rw [← h3, List.getElem?_map, h1] at h2
    injection h2 with h2
    subst h2
    have hm := List.mem_of_getElem? h1
    exact (small_q (hl.elems r (by rw [hML] at hm; simpa using hm)) (hsm r hm)).below hw⟩

set_option maxRecDepth 100000 in
set_option maxHeartbeats 4000000 in
theorem lawSum {A : Option Addr} {n c : Nat} {L : List RV} (hl : RowG w A n L) (hnI : (n : Int) ≤ 9223372036854775807) :
    Calls Try.prog 5 #[.slice A n c] w (CallPost w (fun _ : Unit => .bool true) fun _ _ => True) := by
  by_cases h12 : n ≤ 12
  case neg =>
    refine Good.enter Try.func5 rfl ?_
    refine Good.run (by kernel_rfl) (stop := 1000) 1000 _ ?_
    refine Good.condr (decide ((n : Int) > 12)) true (by kernel_rfl) (by simp; omega) ?_
    refine Good.run (by kernel_rfl) (stop := 1000) 1000 _ ?_
    refine Good.callv (fun w1 hw h => qexample_m w1) (by kernel_rfl) (fun u => ?_)
    refine Good.run (by kernel_rfl) (stop := 1000) 1000 _ ?_
    refine Good.ret (v := .bool true) (by kernel_rfl) (fun w1 hw h => ⟨(), rfl, hw, fun _ _ _ => trivial⟩)
  refine Good.enter Try.func5 rfl ?_
  refine Good.run (by kernel_rfl) (stop := 1000) 1000 _ ?_
  refine Good.condr (decide ((n : Int) > 12)) false (by kernel_rfl) (by simp; omega) ?_
  refine Good.run (by kernel_rfl) (stop := 1000) 1000 _ ?_
  refine Good.slot 4 (.int .i64 (IntKind.i64.wrap ((n : Int) - 1))) (.int .i64 ((n : Int) - 1 - ((0 : Nat) : Int))) (by kernel_rfl) (by rw [IntWalk.i64_in _ (by omega)]; simp) ?_
  refine Good.loop (ι := {q : List RV × (Option Addr × Nat) // q.1.length ≤ n ∧ q.1 = (L.drop (n - q.1.length)).reverse ∧ ∀ r ∈ q.1, smallB r = true}) 50 (fun i => ⟨[(0, .v (.slice A n c)), (3, .v (.slice i.1.2.1 i.1.1.length i.1.2.2)), (4, .v (.int .i64 ((n : Int) - 1 - (i.1.1.length : Int))))], []⟩) (fun i => BackAt w.heap.size i.1.2.1 i.1.2.2 i.1.1) (fun i => n - i.1.1.length) (⟨([], (none, 0)), by simp, by simp [hl.len], by simp⟩) (by kernel_rfl) (fun _ => by kernel_rfl) ⟨by kernel_rfl, by kernel_rfl, by kernel_rfl⟩ (fun u h => World.ownsRow_nil _ _ _ _) ?_
  rintro ⟨⟨M, A', c'⟩, hk, hM, hsm⟩ gg
  simp only at hk hM hsm
  by_cases hlt : M.length < n
  · obtain ⟨m, hm⟩ : ∃ m, m = n - 1 - M.length := ⟨_, rfl⟩
    have hmn : m < n := by omega
    obtain ⟨x, hx⟩ : ∃ x, L[m]? = some x := ⟨_, List.getElem?_eq_getElem (by rw [hl.len]; exact hmn)⟩
    obtain ⟨ad, hA, hcells⟩ := hl.cells m x hx
    refine Good.slot 4 (.int .i64 ((n : Int) - 1 - (M.length : Int))) (.int .i64 ((m : Nat) : Int)) (by kernel_rfl) (by rw [show (n : Int) - 1 - (M.length : Int) = ((m : Nat) : Int) by omega]) ?_
    refine Good.run (by kernel_rfl) (stop := 1000) 1000 _ ?_
    refine Good.condr (decide ((m : Int) ≥ 0)) true (by kernel_rfl) (by simp) ?_
    refine Good.run (by kernel_rfl) (stop := 1000) 1000 _ ?_
    refine Good.ask (idxS 39 (.slice A n c) m) (.pointer (some (ad.add (m * 4)))) (by kernel_rfl) (fun w1 hw h => by rw [hA]; exact run_idxA (elem := 26) (by kernel_rfl) (by kernel_rfl) hmn) ?_
    refine Good.run (by kernel_rfl) (stop := 1000) 1000 _ ?_
    refine Good.ask (ldS 26 (ad.add (m * 4))) (x.val) (by kernel_rfl) (fun w1 hw h => run_ldA (vs := x.cl) (by kernel_rfl) (by kernel_rfl) (fun j v hv => keepc hw (hcells j v hv))) ?_
    refine Good.run (by kernel_rfl) (stop := 1000) 1000 _ ?_
    cases hs : smallB x
    ·
      refine Good.callv (fun w1 hw h => small_v hs) (by kernel_rfl) (fun u => ?_)
      refine Good.run (by kernel_rfl) (stop := 1000) 1000 _ ?_
      refine Good.cond true (by kernel_rfl) ?_
      refine Good.run (by kernel_rfl) (stop := 1000) 1000 _ ?_
      refine Good.callv (fun w1 hw h => qexample_m w1) (by kernel_rfl) (fun u => ?_)
      refine Good.run (by kernel_rfl) (stop := 1000) 1000 _ ?_
      refine Good.leave (by kernel_rfl) ?_
      refine Good.run (by kernel_rfl) (stop := 1000) 1000 _ ?_
      refine Good.ret (v := .bool true) (by kernel_rfl) (fun w1 hw h => ⟨(), rfl, hw, fun _ _ _ => trivial⟩)
    ·
      refine Good.callv (fun w1 hw h => small_v hs) (by kernel_rfl) (fun u => ?_)
      refine Good.run (by kernel_rfl) (stop := 1000) 1000 _ ?_
      refine Good.cond false (by kernel_rfl) ?_
      refine Good.run (by kernel_rfl) (stop := 1000) 1000 _ ?_
      refine Good.ask (idxS 39 (.slice A n c) m) (.pointer (some (ad.add (m * 4)))) (by kernel_rfl) (fun w1 hw h => by rw [hA]; exact run_idxA (elem := 26) (by kernel_rfl) (by kernel_rfl) hmn) ?_
      refine Good.run (by kernel_rfl) (stop := 1000) 1000 _ ?_
      refine Good.ask (ldS 26 (ad.add (m * 4))) (x.val) (by kernel_rfl) (fun w1 hw h => run_ldA (vs := x.cl) (by kernel_rfl) (by kernel_rfl) (fun j v hv => keepc hw (hcells j v hv))) ?_
      refine Good.run (by kernel_rfl) (stop := 5) 1000 _ ?_
      refine Good.make (litS 39 1 #[(0, x.val)]) (litV 1) (litG 26 x.cl.toArray) (by kernel_rfl) (fun w1 hw h => make_lit (by kernel_rfl)) (fun gb => ?_)
      refine Good.run (by kernel_rfl) (stop := 6) 1000 _ ?_
      refine Good.mutOp (L := bl A') (Φ' := fun (y : Option Addr × Nat) u => BackAt w.heap.size y.1 y.2 (M ++ [x]) u) (appS 39 39 (.slice A' M.length c') (litV 1 gb)) (fun w1 hw h => append_m h.1.1 hw.size h.2 (by omega)) (fun u h => BackAt.blk h.1.1) (fun y wa u e1 e2 h hG => hG) (by kernel_rfl) (by kernel_rfl) (fun y => ?_)
      refine Good.run (by kernel_rfl) (stop := 1000) 1000 _ ?_
      refine Good.slot 4 (.int .i64 (IntKind.i64.wrap ((m : Int) - 1))) (.int .i64 ((n : Int) - 1 - ((M ++ [x]).length : Int))) (by kernel_rfl) (by rw [IntWalk.i64_in _ (by omega), show ((m : Int) - 1) = (n : Int) - 1 - ((M ++ [x]).length : Int) by simp; omega]) ?_
      refine Good.slot 3 (.slice y.1 (M.length + 1) y.2) (.slice y.1 (M ++ [x]).length y.2) (by kernel_rfl) (by simp) ?_
      have e1 : (M ++ [x]).length = M.length + 1 := by simp
      have e2 : M ++ [x] = (L.drop (n - (M ++ [x]).length)).reverse := by
        rw [e1, show n - (M.length + 1) = m by omega, mem_drop_succ hx, List.reverse_cons, show m + 1 = n - M.length by omega, ← hM]
      have e3 : ∀ r ∈ M ++ [x], smallB r = true := by
        intro r hr
        rcases List.mem_append.1 hr with hr | hr
        · exact hsm r hr
        · obtain rfl : r = x := by simpa using hr
          exact hs
      refine Good.next (⟨(M ++ [x], y), by show (M ++ [x]).length ≤ n; omega, e2, e3⟩) (by kernel_rfl) (by show n - (M ++ [x]).length < n - M.length; omega) ⟨by kernel_rfl, by kernel_rfl, by kernel_rfl⟩ (fun _ h => h)
  · have hMn : M.length = n := by omega
    have hML : M = L.reverse := by rw [hM, hMn, Nat.sub_self, List.drop_zero]
    have hall : ∀ r ∈ L, smallB r = true := fun r hr => hsm r (by rw [hML]; simpa using hr)
    have hf := hl.f hall
    have hrev : sumTo (L.map qOf).reverse M.length = sumTo (L.map qOf) n := by rw [hMn]; exact sumTo_rev (by simp [hl.len])
    have hKf : 2 ≤ Kf n ∧ Kf n ≤ 68719476736 := by unfold Kf; omega
    refine Good.run (by kernel_rfl) (stop := 1000) 1000 _ ?_
    refine Good.condr (decide (((n : Int) - 1 - (M.length : Int)) ≥ 0)) false (by kernel_rfl) (by simp; omega) ?_
    refine Good.run (by kernel_rfl) (stop := 1000) 1000 _ ?_
    refine Good.leave (by kernel_rfl) ?_
    refine Good.run (by kernel_rfl) (stop := 1000) 1000 _ ?_
    refine Good.callv (fun w1 hw h => qsum_m (c := c) (hf.below hw) (by omega)) (by kernel_rfl) (fun s => ?_)
    refine Good.run (by kernel_rfl) (stop := 1000) 1000 _ ?_
    refine Good.callv (fun w1 hw h => rqsum_m (c := c) (hf.below hw) (by omega)) (by kernel_rfl) (fun t => ?_)
    refine Good.run (by kernel_rfl) (stop := 1000) 1000 _ ?_
    refine Good.callv (fun w1 hw h => rsame_nn (B := true) h.1.2 h.2 (by simp)) (by kernel_rfl) (fun u => ?_)
    refine Good.run (by kernel_rfl) (stop := 1000) 1000 _ ?_
    refine Good.callv (fun w1 hw h => qsum_m (A := A') (n := M.length) (c := c') (L := M) (ps := (L.map qOf).reverse) (back_f h.1.1.1 hl hML hsm hw) (by omega)) (by kernel_rfl) (fun v => ?_)
    refine Good.run (by kernel_rfl) (stop := 1000) 1000 _ ?_
    refine Good.callv (fun w1 hw h => rsame_nn (B := true) h.1.1.1.2 (h.2.cast hrev) (by simp)) (by kernel_rfl) (fun u => ?_)
    refine Good.run (by kernel_rfl) (stop := 1000) 1000 _ ?_
    refine Good.callv (fun w1 hw h => qisn_n h.1.1.1.1.2 hKf) (by kernel_rfl) (fun u => ?_)
    refine Good.run (by kernel_rfl) (stop := 1000) 1000 _ ?_
    refine Good.callv (fun w1 hw h => qexample_m w1) (by kernel_rfl) (fun u => ?_)
    refine Good.run (by kernel_rfl) (stop := 1000) 1000 _ ?_
    refine Good.ret (v := .bool true) (by kernel_rfl) (fun w1 hw h => ⟨(), rfl, hw, fun _ _ _ => trivial⟩)
end

end Go.Proofs.Ytjdcolaefhheaaa
