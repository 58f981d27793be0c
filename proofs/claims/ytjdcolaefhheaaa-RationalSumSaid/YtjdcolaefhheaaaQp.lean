/-
  Sums of fractions: closures that write the caller's memory.
-/
import Derived.Test.YtjdcolaefhheaaaQo
namespace Go.Proofs.Ytjdcolaefhheaaa
set_option linter.unusedVariables false
set_option linter.unusedSimpArgs false
open Go.RowKit

/-- A function that may write memory made since the world W began. -/
theorem Good.enterW {P : Program} {f : FuncId} {fn : Func} {args : Array Value} {W w : World} {R : Ending → World → Prop}
    (hf : P.funcs[f]? = some fn) (hb : fn.body.isSome = true) (hW : Below W.heap.size W w)
    (h : Good P W (bodyPost P fn R) (fun u => w.heap.size ≤ u.heap.size ∧ ∀ b, W.heap.size ≤ b → b < w.heap.size → u.heap[b]? = w.heap[b]?) (amStart fn args)) : Calls P f args w R := by
  obtain ⟨c, hc⟩ := Option.isSome_iff_exists.1 hb
  replace h := h.get
  simp only [GoodD, amStart, hc, Option.getD_some] at h
  refine calls_of_wp hf hc (h ?_ (fun _ => 0) _ w ?_)
  · refine ⟨fun x hx k hk => ?_, fun j cs hj => by cases hj⟩
    simp only [List.mem_append, List.mem_map, List.mem_replicate] at hx
    rcases hx with ⟨q, _, rfl⟩ | ⟨_, rfl⟩ <;> simp [AV.ids] at hk
  · refine ⟨?_, rfl, hW, fun k cs hk => (by cases hk), fun k k' hk => (by cases hk), fun w' hw => ⟨hw.size, fun b h1 h2 => hw.heap b h1 h2 (fun k hk => by cases hk)⟩⟩
    simp [Function.comp_def, AV.conc]
section
variable {P : Program} {W : World} {Q : Exit → Act → World → Prop} {Φ Φ' : World → Prop} {c : Cfg}
/-- A store into old memory. -/
theorem Good.mutSt {L : List Nat} {G : World → Prop} (s : Sem Next)
    (hs : ∀ w, Below W.heap.size W w → Φ w → ∃ w', s.run P w = .ok .skip w' ∧ Chg L w w' ∧ ∀ w'', w'.heap.size ≤ w''.heap.size → (∀ b ∈ L, w''.heap[b]? = w'.heap[b]?) → G w'') (hL : Own1 W L Φ) (hΦ : Left L Φ G Φ')
    (hf : opsFoc c = true) (hc : askSem c = some s) (h : Good P W Q Φ' (amBack (.v undef) c)) : Good P W Q Φ c := by
  obtain ⟨foc, k, σ⟩ := c
  replace h := h.get
  refine ⟨?_⟩
  unfold askSem at hc
  split at hc
  · rename_i ops o ho
    split at hc
    · cases hc
    · rename_i hns
      split at hc
      · rename_i hw
        simp only [Bool.and_eq_true] at hw
        injection hc with hc
        subst hc
        unfold nextOp at ho
        simp only at ho
        split at ho
        · rename_i ops' i l
          cases hoi : ops'[i]? with
          | none => rw [hoi] at ho; cases ho
          | some o' =>
            rw [hoi] at ho
            simp only [Option.map_some, Option.some.injEq, Prod.mk.injEq] at ho
            obtain ⟨rfl, rfl⟩ := ho
            intro hwf β a w hr
            show wpOps P ops' (post P Q k) (i :: l) a w
            rw [wpOps_cons]
            unfold wpOp
            simp only [hoi, wantedA_ok hr, hw.1, if_true]
            refine .inl ?_
            have hrho : ∀ x ∈ o'.op.operands, a.eval x = σ.rho x := fun x hx => by
              rw [hr.eval, AV.conc_isV]; · rfl
              exact List.all_eq_true.1 hw.2 x (by simpa using hx)
            obtain ⟨w', hrun, hch, hG⟩ := hs w hr.bel hr.phi
            unfold Oper.wp
            rw [execOp_congr o' (fun cs b e => hns cs b e) hrho, hrun]
            simp only [GoodD, amBack, hoi, Option.bind_some] at h
            exact h (hwf.put _ (by intro k hk; simp [AV.ids] at hk)) β _ w' ((hr.mut hL hch (fun w'' k1 k2 => hG w'' k1 fun b hb => k2 b (.inl hb)) hΦ).put o'.dst (.v undef))
        · cases hf
        · cases ho
      · cases hc
  · cases hc
end
def stS (t : TypeId) (p : Addr) (v : Value) : Sem Next := Instr.storeAt t (.pointer (some p)) v >>= fun _ => (pure .skip : Sem Next)
/-- A box that is a plain block: its cells. -/
def BoxAt (w : World) (g : Nat) (cs : List Value) : Prop := ∃ t, w.heap[g]? = some (.cells cs.toArray t (0, 0))
theorem BoxAt.range {w : World} {g : Nat} {cs : List Value} (h : BoxAt w g cs) : w.rangeAt g 0 cs := by
  obtain ⟨t, h⟩ := h
  intro j v hv
  simp only [World.cell?, h, Option.isSome_none, Bool.false_eq_true, if_false, Nat.zero_add]
  simpa using hv
/-- A whole box stored. -/
theorem BoxAt.store {P : Program} {t : TypeId} {w : World} {g : Nat} {cs : List Value} {v : Value} (h : BoxAt w g cs) (hn : sizeT P t = some cs.length) (hl : v.cells.size = cs.length) (h1 : ∀ u ∈ v.cells.toList, u.oneCell' = true) :
    ∃ w', (stS t ⟨g, 0, none⟩ v).run P w = .ok .skip w' ∧ Chg [g] w w' ∧ ∀ w'', w'.heap.size ≤ w''.heap.size → (∀ b ∈ [g], w''.heap[b]? = w'.heap[b]?) → BoxAt w'' g v.cells.toList := by
  obtain ⟨ty, h⟩ := h
  have hst := run_storeCells_at P g 0 ty v.cells.toList 0 cs.toArray w h (by simp; omega) h1
  have hnew : ((cs.toArray.toList.take (0 + 0) ++ v.cells.toList ++ cs.toArray.toList.drop (0 + 0 + v.cells.toList.length)).toArray) = v.cells := by
    simp [hl]
  rw [hnew] at hst
  refine ⟨w.setRow g v.cells, ?_, ⟨rfl, rfl, rfl, by rw [setRow_size]; exact Nat.le_refl _, fun k _ hk => setRow_other _ _ _ _ (by simpa using hk)⟩, fun w'' k1 k2 => ⟨ty, ?_⟩⟩
  · simp only [stS, Instr.storeAt, Instr.sureAddr, storeVar, Sem.run_bind, Sem.run_pure, Result.andThen_ok, run_sizeT hn]
    rw [if_neg (by simpa using hl)]
    simp only [hst, Sem.run_pure, Sem.run_bind, Result.andThen_ok]
  · rw [k2 g (by simp)]
    simp only [World.setRow, Array.getElem?_modify, if_true, h, Option.map_some, Array.toArray_toList]
theorem BoxAt.left {w wa : World} {g : Nat} {cs : List Value} {L : List Nat} (h : BoxAt wa g cs) (e2 : ∀ b, b ∉ L → wa.heap[b]? = w.heap[b]?) (hg : g ∉ L) : BoxAt w g cs := by
  obtain ⟨t, h⟩ := h
  exact ⟨t, (e2 g hg).symm.trans h⟩
section
variable {a b : RV} {p q : Rat} {K K1 K2 : Nat} {w W : World}
theorem Own.same {w w' : World} {B : Nat} {A : Option Addr} {n c : Nat} {l : List Nat} (h : Own w B A n c l) (e1 : w.heap.size ≤ w'.heap.size) (e2 : ∀ b ∈ blks A c, w'.heap[b]? = w.heap[b]?) : Own w' B A n c l := by
  have hkeep : ∀ p, A = some p → 0 < c → w'.heap[p.block]? = w.heap[p.block]? := fun p hp h0 => e2 _ (by unfold blks; rw [hp]; simp; omega)
  refine ⟨⟨h.dig, h.len, h.le, h.cap, h.rd.1, fun h0 => ?_⟩, fun h0 => ?_⟩
  · obtain ⟨x, hA, hb, hc⟩ := h.rd.2 h0
    have hle := h.le
    refine ⟨x, hA, Nat.lt_of_lt_of_le hb e1, fun j u hu => ?_⟩
    have e : w'.cell? (x.add j) = w.cell? (x.add j) := World.cell?_of_block (by rw [block_of_add]; exact hkeep x hA (by omega))
    exact e.trans (hc j u hu)
  · obtain ⟨g, cur, t, hA, hB, hh, hs⟩ := h.own h0
    exact ⟨g, cur, t, hA, hB, (hkeep _ hA h0).trans hh, hs⟩
theorem IsN.same {v : SV} {x : Int} {w w' : World} (h : IsN v x K w) (e1 : w.heap.size ≤ w'.heap.size) (e2 : ∀ b ∈ blks v.A v.c, w'.heap[b]? = w.heap[b]?) : IsN v x K w' :=
  have ho := h.2.2.2.same e1 e2
  ⟨⟨ho.toIn, h.1.zi, h.1.le⟩, h.2.1, h.2.2.1, ho⟩
theorem IsQN.same {r : RV} {w w' : World} (h : IsQN r q K w) (e1 : w.heap.size ≤ w'.heap.size) (e2 : ∀ b ∈ mutL r, w'.heap[b]? = w.heap[b]?) : IsQN r q K w' :=
  ⟨h.1.same e1 fun b hb => e2 b (List.mem_append_left _ hb), h.2.same e1 fun b hb => e2 b (List.mem_append_right _ hb)⟩
theorem IsQN.left {r : RV} {w wa : World} {L : List Nat} (h : IsQN r q K wa) (e1 : wa.heap.size = w.heap.size) (e2 : ∀ b, b ∉ L → wa.heap[b]? = w.heap[b]?) (hd : ∀ b ∈ mutL r, b ∉ L) : IsQN r q K w :=
  h.same (Nat.le_of_eq e1) fun b hb => (e2 b (hd b hb)).symm
/-- What the sum's box holds: a fraction in memory that is not the box. -/
def SumAt (w : World) (g : Nat) (r : RV) (q : Rat) (K : Nat) : Prop := BoxAt w g r.cl ∧ IsQN r q K w ∧ g ∉ mutL r

set_option maxRecDepth 100000 in
set_option maxHeartbeats 1000000 in
theorem sum2_m {r x : RV} {g N : Nat} (hN : N ≤ w.heap.size) (hW : Below W.heap.size W w) (hg : W.heap.size ≤ g) (hs : SumAt w g r p K1) (hx : IsQ x q K2 W) (hK : 2 ≤ K1 ∧ 2 ≤ K2 ∧ K1 + K2 ≤ 68719476000) :
    Calls Try.prog 100 #[x.val, .pointer (some ⟨g, 0, none⟩)] w (MutPost w [g] (fun _ : RV => .tuple #[]) (fun s u => SumAt u g s (p + q) (K1 + K2 + 1) ∧ ∀ b ∈ mutL s, N ≤ b)) := by
  have hglt : g < w.heap.size := by obtain ⟨t, h⟩ := hs.1; exact (Array.getElem?_eq_some_iff.1 h).1
  refine Good.enterW Try.func100 rfl hW ?_
  refine Good.run (by kernel_rfl) (stop := 1000) 1000 _ ?_
  have hat : ∀ u : World, Below W.heap.size W u → (w.heap.size ≤ u.heap.size ∧ ∀ b, W.heap.size ≤ b → b < w.heap.size → u.heap[b]? = w.heap[b]?) → BoxAt u g r.cl ∧ IsQN r p K1 u := fun u hu h => by
    refine ⟨?_, hs.2.1.same h.1 fun b hb => ?_⟩
    · obtain ⟨t, h0⟩ := hs.1; exact ⟨t, (h.2 g hg hglt).trans h0⟩
    · obtain ⟨_, _, _, h0⟩ := hs.2.1.own.blk b hb
      have hlt := (Array.getElem?_eq_some_iff.1 h0).1
      rcases Nat.lt_or_ge b W.heap.size with h1 | h1
      · rw [hu.block b h1, hW.block b h1]
      · exact h.2 b h1 hlt
  refine Good.ask (ldS 26 ⟨g, 0, none⟩) (r.val) (by kernel_rfl) (fun w1 hw h => run_ldN (vs := r.cl) (by kernel_rfl) (by kernel_rfl) (hat w1 hw h).1.range) ?_
  refine Good.run (by kernel_rfl) (stop := 1000) 1000 _ ?_
  refine Good.callv (fun w1 hw h => freshE (B := w.heap.size) (qadd_m (hat w1 hw h).2.q (hx.below hw) hK) (fun _ _ k => k.own) h.1) (by kernel_rfl) (fun s => ?_)
  refine Good.run (by kernel_rfl) (stop := 1000) 1000 _ ?_
  refine Good.mutSt (L := [g]) (Φ' := fun u => w.heap.size ≤ u.heap.size ∧ (∀ b, W.heap.size ≤ b → b < w.heap.size → b ≠ g → u.heap[b]? = w.heap[b]?) ∧ BoxAt u g s.1.cl ∧ IsQN s.1 (p + q) (K1 + K2 + 1) u ∧ ∀ b ∈ mutL s.1, w.heap.size ≤ b) (stS 26 ⟨g, 0, none⟩ s.1.val) (fun w1 hw h => (hat w1 hw h.1).1.store (by kernel_rfl) rfl (by intro u hu; simp [RV.cl, Value.cells] at hu; rcases hu with rfl | rfl | rfl | rfl <;> rfl)) (fun u h b hb => ?_) (fun wa u e1 e2 h hG => ?_) (by kernel_rfl) (by kernel_rfl) ?_
  · obtain rfl : b = g := by simpa using hb
    obtain ⟨t, h0⟩ := hs.1
    exact ⟨hg, _, _, _, (h.1.2 b hg hglt).trans h0⟩
  · refine ⟨by rw [← e1]; exact h.1.1, fun b h1 h2 h3 => (e2 b (by simpa using h3)).symm.trans (h.1.2 b h1 h2), hG, h.2.1.left e1 e2 fun b hb hb' => ?_, fun b hb => (h.2.2.1 b hb).1⟩
    obtain rfl : b = g := by simpa using hb'
    have := (h.2.2.1 b hb).1
    omega
  refine Good.run (by kernel_rfl) (stop := 1000) 1000 _ ?_
  refine Good.ret (v := .tuple #[]) (by kernel_rfl) (fun w1 hw h => ?_)
  have h0 := h w1 (Nat.le_refl _) fun _ _ _ => rfl
  refine ⟨s.1, rfl, ⟨hw.os.trans hW.os.symm, hw.tape.trans hW.tape.symm, hw.output.trans hW.output.symm, h0.1, fun k hk hkl => ?_⟩, fun w'' k1 k2 => ⟨⟨?_, h0.2.2.2.1.same k1 fun b hb => k2 b (.inr ⟨h0.2.2.2.2 b hb, ?_⟩), fun hb => ?_⟩, fun b hb => Nat.le_trans hN (h0.2.2.2.2 b hb)⟩⟩
  · rcases Nat.lt_or_ge k W.heap.size with h1 | h1
    · rw [hw.block k h1, hW.block k h1]
    · exact h0.2.1 k h1 hk (by simpa using hkl)
  · obtain ⟨t, h1⟩ := h0.2.2.1
    exact ⟨t, (k2 g (.inl (by simp))).trans h1⟩
  · obtain ⟨_, _, _, h1⟩ := h0.2.2.2.1.own.blk b hb
    exact (Array.getElem?_eq_some_iff.1 h1).1
  · have := h0.2.2.2.2 g hb
    omega

theorem run_idxA {P : Program} {t elem : TypeId} {ad : Addr} {n c k s : Nat} {w : World} (hu : P.underlying t = some (.slice elem)) (hs : sizeT P elem = some s) (hk : k < n) :
    (idxS t (.slice (some ad) n c) k).run P w = .ok (.value (.pointer (some (ad.add (k * s))))) w := by
  have hb : 0 ≤ (k : Int) ∧ (k : Int) < (n : Int) := by omega
  simp only [idxS, Instr.indexAt, asIntOf, Sem.run_bind, Sem.run_pure, Result.andThen_ok, run_underlying hu, run_sizeT hs, if_pos hb, Int.toNat_natCast]
theorem run_ldA {P : Program} {t : TypeId} {ad : Addr} {vs : List Value} {w : World} (ht : isRowT P t = some true) (hn : sizeT P t = some vs.length) (h : ∀ j v, vs[j]? = some v → w.cell? (ad.add j) = some v) :
    (ldS t ad).run P w = .ok (.value (.agg vs.toArray)) w := by
  have hl : (loadCells ad vs.length).run P w = .ok vs.toArray w := run_loadCells_list (P := P) w ad vs h
  have hag : (isAgg t).run P w = .ok true w := by
    unfold isRowT at ht
    split at ht
    · rename_i hd; unfold isAgg; rw [Sem.run_bind, run_underlying hd w]; rfl
    · rename_i hd; unfold isAgg; rw [Sem.run_bind, run_underlying hd w]; rfl
    · cases ht
    · cases ht
  simp only [ldS, Instr.loadAt, Instr.sureAddr, loadVar, Sem.run_bind, Sem.run_pure, Result.andThen_ok, hag, if_true, run_sizeT hn, hl]
/-- A slice of fractions of at most 40 digits, and the numbers. -/
structure RowF (w : World) (A : Option Addr) (n : Nat) (L : List RV) (ps : List Rat) : Prop where
  len : L.length = n
  lenp : ps.length = n
  cells : ∀ (k : Nat) (r : RV), L[k]? = some r → ∃ ad : Addr, A = some ad ∧ ∀ (j : Nat) (v : Value), r.cl[j]? = some v → w.cell? ((ad.add (k * 4)).add j) = some v
  elems : ∀ (k : Nat) (r : RV) (p : Rat), L[k]? = some r → ps[k]? = some p → IsQ r p 40 w
def sumTo (ps : List Rat) (k : Nat) : Rat := (ps.take k).foldl (· + ·) 0
theorem sumTo_succ {ps : List Rat} {k : Nat} {p : Rat} (h : ps[k]? = some p) : sumTo ps (k + 1) = sumTo ps k + p := by
  unfold sumTo
  rw [List.take_add_one, h]
  simp
def Kf (k : Nat) : Nat := 2 + k * 41
/-- The sum so far: the box holds it; it lies in memory made since w, or is the first one. -/
structure SumI (W w : World) (g : Nat) (r0 : RV) (ps : List Rat) (k : Nat) (r : RV) (u : World) : Prop where
  size : w.heap.size ≤ u.heap.size
  old : ∀ b, W.heap.size ≤ b → b < w.heap.size → b ≠ g → u.heap[b]? = w.heap[b]?
  box : BoxAt u g r.cl
  sum : (k = 0 ∧ r = r0) ∨ (IsQN r (sumTo ps k) (Kf k) u ∧ ∀ b ∈ mutL r, w.heap.size ≤ b)
theorem SumI.at_ {g k : Nat} {r0 r : RV} {ps : List Rat} {u : World} (h : SumI W w g r0 ps k r u) (hW : Below W.heap.size W w) (hu : Below W.heap.size W u) (hg : g < w.heap.size) (h0 : SumAt w g r0 0 2) : SumAt u g r (sumTo ps k) (Kf k) := by
  refine ⟨h.box, ?_⟩
  rcases h.sum with ⟨rfl, rfl⟩ | ⟨h1, h2⟩
  · refine ⟨h0.2.1.same h.size fun b hb => ?_, h0.2.2⟩
    obtain ⟨_, _, _, h1⟩ := h0.2.1.own.blk b hb
    have hlt := (Array.getElem?_eq_some_iff.1 h1).1
    rcases Nat.lt_or_ge b W.heap.size with h2 | h2
    · rw [hu.block b h2, hW.block b h2]
    · exact h.old b h2 hlt (fun e => h0.2.2 (e ▸ hb))
  · exact ⟨h1, fun hb => by have := h2 g hb; omega⟩

set_option maxRecDepth 100000 in
set_option maxHeartbeats 1000000 in
theorem sum1_m {r0 : RV} {g g1 n c : Nat} {A : Option Addr} {L : List RV} {ps : List Rat} (hW : Below W.heap.size W w) (hg : W.heap.size ≤ g) (hne : g1 ≠ g) (h1 : BoxAt w g1 [.slice A n c]) (hg1 : W.heap.size ≤ g1) (h0 : SumAt w g r0 0 2) (hl : RowF W A n L ps) (hn : n ≤ 1000) :
    Calls Try.prog 99 #[.func (.func 100) #[] #[.pointer (some ⟨g, 0, none⟩)], .pointer (some ⟨g1, 0, none⟩)] w (MutPost w [g] (fun _ : RV => .tuple #[]) (fun s u => BoxAt u g s.cl ∧ ((n = 0 ∧ s = r0) ∨ (IsQN s (sumTo ps n) (Kf n) u ∧ ∀ b ∈ mutL s, w.heap.size ≤ b)))) := by
  have hglt : g < w.heap.size := by obtain ⟨t, h⟩ := h0.1; exact (Array.getElem?_eq_some_iff.1 h).1
  have hg1lt : g1 < w.heap.size := by obtain ⟨t, h⟩ := h1; exact (Array.getElem?_eq_some_iff.1 h).1
  refine Good.enterW Try.func99 rfl hW ?_
  refine Good.run (by kernel_rfl) (stop := 1000) 1000 _ ?_
  refine Good.ask (ldS 39 ⟨g1, 0, none⟩) (.slice A n c) (by kernel_rfl) (fun w1 hw h => run_ldS (by kernel_rfl) (by obtain ⟨t, h2⟩ := h1; exact cell_one ((h.2 g1 hg1 hg1lt).trans h2))) ?_
  refine Good.run (by kernel_rfl) (stop := 1000) 1000 _ ?_
  refine Good.loop (ι := {q : Nat × RV // q.1 ≤ n}) 15 (fun i => ⟨[(0, .v (.func (.func 100) #[] #[.pointer (some ⟨g, 0, none⟩)])), (5, .v (.slice A n c)), (6, .v (.int .i64 n)), (7, .v (.int .i64 i.1.1))], []⟩) (fun i => SumI W w g r0 ps i.1.1 i.1.2) (fun i => n - i.1.1) (⟨(0, r0), Nat.zero_le _⟩) (by kernel_rfl) (fun _ => by kernel_rfl) ⟨by kernel_rfl, by kernel_rfl, by kernel_rfl⟩ (fun u h => ⟨h.1, fun b h1 h2 _ => h.2 b h1 h2, by obtain ⟨t, h2⟩ := h0.1; exact ⟨t, (h.2 g hg hglt).trans h2⟩, .inl ⟨rfl, rfl⟩⟩) ?_
  rintro ⟨⟨k, r⟩, hk⟩ gg
  by_cases hlt : k < n
  ·
    refine Good.run (by kernel_rfl) (stop := 1000) 1000 _ ?_
    refine Good.condr (decide ((k : Int) < (n : Int))) true (by kernel_rfl) (by simp; omega) ?_
    refine Good.run (by kernel_rfl) (stop := 1000) 1000 _ ?_
    obtain ⟨x, hx⟩ : ∃ x, L[k]? = some x := ⟨_, List.getElem?_eq_getElem (by rw [hl.len]; exact hlt)⟩
    obtain ⟨p, hp⟩ : ∃ p, ps[k]? = some p := ⟨_, List.getElem?_eq_getElem (by rw [hl.lenp]; exact hlt)⟩
    obtain ⟨ad, hA, hcells⟩ := hl.cells k x hx
    refine Good.ask (idxS 39 (.slice A n c) k) (.pointer (some (ad.add (k * 4)))) (by kernel_rfl) (fun w1 hw h => by rw [hA]; exact run_idxA (elem := 26) (by kernel_rfl) (by kernel_rfl) hlt) ?_
    refine Good.run (by kernel_rfl) (stop := 1000) 1000 _ ?_
    refine Good.ask (ldS 26 (ad.add (k * 4))) (x.val) (by kernel_rfl) (fun w1 hw h => run_ldA (vs := x.cl) (by kernel_rfl) (by kernel_rfl) (fun j v hv => keepc hw (hcells j v hv))) ?_
    refine Good.run (by kernel_rfl) (stop := 1000) 1000 _ ?_
    refine Good.mut (L := [g]) (Φ' := fun s u => SumI W w g r0 ps (k + 1) s u) (fun w1 hw h => sum2_m h.size hw hg (h.at_ hW hw hglt h0) (hl.elems k x p hx hp) (show 2 ≤ Kf k ∧ 2 ≤ 40 ∧ Kf k + 40 ≤ 68719476000 from by unfold Kf; omega)) (fun u h b hb => ?_) (fun s wa u e1 e2 h hG => ?_) (by kernel_rfl) (by kernel_rfl) (fun s => ?_)
    · obtain rfl : b = g := by simpa using hb
      obtain ⟨t, h2⟩ := h.box
      exact ⟨hg, _, _, _, h2⟩
    · refine ⟨by rw [← e1]; exact h.size, fun b h1 h2 h3 => (e2 b (by simpa using h3)).symm.trans (h.old b h1 h2 h3), hG.1.1, .inr ⟨?_, hG.2⟩⟩
      rw [sumTo_succ hp]
      exact hG.1.2.1.mono (show Kf k + 40 + 1 ≤ Kf (k + 1) from by unfold Kf; omega)
    refine Good.run (by kernel_rfl) (stop := 1000) 1000 _ ?_
    refine Good.slot 7 (.int .i64 (IntKind.i64.wrap ((k : Int) + 1))) (.int .i64 ((k + 1 : Nat) : Int)) (by kernel_rfl) (by rw [wrap_succ hlt (by omega)]) ?_
    refine Good.next (⟨(k + 1, s), by show k + 1 ≤ n; omega⟩) (by kernel_rfl) (by show n - (k + 1) < n - k; omega) ⟨by kernel_rfl, by kernel_rfl, by kernel_rfl⟩ (fun _ h => h)
  ·
    refine Good.run (by kernel_rfl) (stop := 1000) 1000 _ ?_
    refine Good.condr (decide ((k : Int) < (n : Int))) false (by kernel_rfl) (by simp at hlt ⊢; omega) ?_
    refine Good.run (by kernel_rfl) (stop := 1000) 1000 _ ?_
    refine Good.leave (by kernel_rfl) ?_
    refine Good.run (by kernel_rfl) (stop := 1000) 1000 _ ?_
    refine Good.ret (v := .tuple #[]) (by kernel_rfl) (fun w1 hw h => ?_)
    have h9 := h w1 (Nat.le_refl _) fun _ _ _ => rfl
    have hkn : k = n := by simp at hlt hk; omega
    refine ⟨r, rfl, ⟨hw.os.trans hW.os.symm, hw.tape.trans hW.tape.symm, hw.output.trans hW.output.symm, h9.size, fun b hb hbl => ?_⟩, fun w'' k1 k2 => ⟨?_, ?_⟩⟩
    · rcases Nat.lt_or_ge b W.heap.size with h1 | h1
      · rw [hw.block b h1, hW.block b h1]
      · exact h9.old b h1 hb (by simpa using hbl)
    · obtain ⟨t, h2⟩ := h9.box
      exact ⟨t, (k2 g (.inl (by simp))).trans h2⟩
    · rcases h9.sum with ⟨h2, h3⟩ | ⟨h2, h3⟩
      · exact .inl ⟨hkn ▸ h2, h3⟩
      · refine .inr ⟨hkn ▸ h2.same k1 fun b hb => k2 b (.inr ⟨h3 b hb, ?_⟩), h3⟩
        obtain ⟨_, _, _, h4⟩ := h2.own.blk b hb
        exact (Array.getElem?_eq_some_iff.1 h4).1

def boxS (t : TypeId) (v : Value) : Sem Next := Instr.box t v >>= fun v => pure (.value v)
def allS (t : TypeId) : Sem Next := Instr.alloc t true (.tuple #[]) >>= fun v => pure (.value v)
def ptr (g : Nat) : Value := .pointer (some ⟨g, 0, none⟩)
theorem alloc_at (w : World) (o : Obj) {w'' : World} (h1 : (w.alloc o).heap.size ≤ w''.heap.size) (h2 : ∀ b, w.heap.size ≤ b → b < (w.alloc o).heap.size → w''.heap[b]? = (w.alloc o).heap[b]?) : w''.heap[w.heap.size]? = some o ∧ w.heap.size < w''.heap.size := by
  have hs : (w.alloc o).heap.size = w.heap.size + 1 := by simp
  refine ⟨?_, by omega⟩
  rw [h2 w.heap.size (Nat.le_refl _) (by omega)]
  show (w.heap.push _)[w.heap.size]? = _
  simp
theorem make_box {P : Program} {t : TypeId} {v : Value} {N : Nat} (hN : N ≤ w.heap.size) : MakePost P w ptr (fun g u => BoxAt u g v.cells.toList ∧ N ≤ g ∧ g < u.heap.size) (boxS t v) :=
  ⟨w.heap.size, w.alloc (.cells v.cells t), by simp only [boxS, Instr.box, Sem.run_bind, run_newVar, Result.andThen_ok, Sem.run_pure, ptr], below_new _ _, fun w'' h1 h2 => ⟨⟨t, by rw [(alloc_at w _ h1 h2).1, Array.toArray_toList]⟩, hN, (alloc_at w _ h1 h2).2⟩⟩
theorem make_all {P : Program} {t : TypeId} {z : Value} {N : Nat} (hz : zeroOf P t = some z) (hN : N ≤ w.heap.size) : MakePost P w ptr (fun g u => BoxAt u g z.cells.toList ∧ N ≤ g ∧ g < u.heap.size) (allS t) :=
  ⟨w.heap.size, w.alloc (.cells z.cells t), by simp only [allS, Instr.alloc, Sem.run_bind, run_zeroOf hz, run_newVar, Result.andThen_ok, Sem.run_pure, ptr], below_new _ _, fun w'' h1 h2 => ⟨⟨t, by rw [(alloc_at w _ h1 h2).1, Array.toArray_toList]⟩, hN, (alloc_at w _ h1 h2).2⟩⟩
theorem MutPost.cast {X : Type} {w : World} {L : List Nat} {val : X → Value} {G G' : X → World → Prop} {e : Ending} {w' : World} (h : MutPost w L val G e w') (hG : ∀ x u, G x u → G' x u) : MutPost w L val G' e w' := by
  obtain ⟨x, h1, h2, h3⟩ := h
  exact ⟨x, h1, h2, fun w'' k1 k2 => hG _ _ (h3 w'' k1 k2)⟩

set_option maxRecDepth 100000 in
set_option maxHeartbeats 1000000 in
theorem qsum_m {n c : Nat} {A : Option Addr} {L : List RV} {ps : List Rat} (hl : RowF w A n L ps) (hn : n ≤ 1000) :
    Calls Try.prog 32 #[.slice A n c] w (CallPost w RV.val fun s u => IsQN s (sumTo ps n) (Kf n) u) := by
  refine Good.enter Try.func32 rfl ?_
  refine Good.run (by kernel_rfl) (stop := 0) 1000 _ ?_
  refine Good.make (boxS 39 (.slice A n c)) (ptr) (fun g u => BoxAt u g [.slice A n c] ∧ w.heap.size ≤ g ∧ g < u.heap.size) (by kernel_rfl) (fun w1 hw h => make_box hw.size) (fun g1 => ?_)
  refine Good.run (by kernel_rfl) (stop := 1000) 1000 _ ?_
  refine Good.callv (fun w1 hw h => freshE (B := g1 + 1) (qfromInt_m 0 w1 (by decide) (by decide)) (fun _ _ k => k.own) h.2.2.2) (by kernel_rfl) (fun z => ?_)
  refine Good.run (by kernel_rfl) (stop := 1) 1000 _ ?_
  refine Good.make (allS 26) (ptr) (fun g u => BoxAt u g RV0.cl ∧ z.2 ≤ g ∧ g < u.heap.size) (by kernel_rfl) (fun w1 hw h => make_all (z := RV0.val) (by kernel_rfl) h.2.2.2.1) (fun g => ?_)
  refine Good.run (by kernel_rfl) (stop := 1000) 1000 _ ?_
  refine Good.mutSt (L := [g]) (Φ' := fun u => BoxAt u g1 [.slice A n c] ∧ SumAt u g z.1 0 2 ∧ w.heap.size ≤ g1 ∧ g1 + 1 ≤ z.2 ∧ z.2 ≤ g) (stS 26 ⟨g, 0, none⟩ z.1.val) (fun w1 hw h => h.2.1.store (by kernel_rfl) rfl (by intro u hu; simp [Value.cells] at hu; rcases hu with rfl | rfl | rfl | rfl <;> rfl)) (fun u h b hb => ?_) (fun wa u e1 e2 h hG => ?_) (by kernel_rfl) (by kernel_rfl) ?_
  · obtain rfl : b = g := by simpa using hb
    obtain ⟨t, h2⟩ := h.2.1
    have := h.1.1.2.2.1
    have := h.1.2.2.2.2
    have := h.2.2.1
    exact ⟨by omega, _, _, _, h2⟩
  · have k1 := h.1.2.2.2.2
    have k2 := h.2.2.1
    refine ⟨h.1.1.2.1.left e2 (by simp; omega), ⟨hG, (h.1.2.1.left e1 e2 fun b hb hb' => ?_).cast rfl, fun hb => ?_⟩, h.1.1.2.2.1, k1, k2⟩
    · have := (h.1.2.2.1 b hb).2
      have : b = g := by simpa using hb'
      omega
    · have := (h.1.2.2.1 g hb).2
      omega
  refine Good.run (by kernel_rfl) (stop := 1000) 1000 _ ?_
  refine Good.mut (L := [g]) (Φ' := fun (s : RV) u => IsQN s (sumTo ps n) (Kf n) u ∧ BoxAt u g s.cl) (G := fun s u => BoxAt u g s.cl ∧ ((n = 0 ∧ s = z.1) ∨ IsQN s (sumTo ps n) (Kf n) u)) (fun w1 hw h => (sum1_m (r0 := z.1) hw (by have := h.2.2; omega) (by have := h.2.2; omega) h.1 h.2.2.1 h.2.1 hl hn).mono fun _ _ k => k.cast fun s u k => ⟨k.1, k.2.imp id And.left⟩) (fun u h b hb => ?_) (fun s wa u e1 e2 h hG => ?_) (by kernel_rfl) (by kernel_rfl) (fun s => ?_)
  · obtain rfl : b = g := by simpa using hb
    obtain ⟨t, h2⟩ := h.2.1.1
    have := h.2.2
    exact ⟨by omega, _, _, _, h2⟩
  · refine ⟨?_, hG.1⟩
    rcases hG.2 with ⟨h1, h2⟩ | h1
    · rw [h1, h2]
      exact h.2.1.2.1.left e1 e2 fun b hb hb' => h.2.1.2.2 ((show b = g by simpa using hb') ▸ hb)
    · exact h1
  refine Good.run (by kernel_rfl) (stop := 1000) 1000 _ ?_
  refine Good.ask (ldS 26 ⟨g, 0, none⟩) (s.val) (by kernel_rfl) (fun w1 hw h => run_ldN (vs := s.cl) (by kernel_rfl) (by kernel_rfl) h.2.range) ?_
  refine Good.run (by kernel_rfl) (stop := 1000) 1000 _ ?_
  refine Good.ret (v := s.val) (by kernel_rfl) (fun w1 hw h => ⟨s, rfl, hw, fun w'' k1 k2 => (h w'' k1 k2).1⟩)

set_option maxRecDepth 100000 in
set_option maxHeartbeats 1000000 in
theorem rqsum_m {n c : Nat} {A : Option Addr} {L : List RV} {ps : List Rat} (hl : RowF w A n L ps) (hn : n ≤ 1000) :
    Calls Try.prog 33 #[.slice A n c] w (CallPost w RV.val fun s u => IsQN s (sumTo ps n) (Kf n) u) := by
  refine Good.enter Try.func33 rfl ?_
  refine Good.run (by kernel_rfl) (stop := 1000) 1000 _ ?_
  refine Good.callv (fun w1 hw h => rqfromInt_m 0 w1 (by decide) (by decide)) (by kernel_rfl) (fun z => ?_)
  refine Good.run (by kernel_rfl) (stop := 1000) 1000 _ ?_
  refine Good.loop (ι := {q : Nat × RV // q.1 ≤ n}) 19 (fun i => ⟨[(0, .v (.slice A n c)), (2, .p 2 0), (3, .p 3 0), (4, .v (.int .i64 i.1.1))], [(2, RV0.cl.map .v), (3, i.1.2.cl.map .v)]⟩) (fun i u => IsQN i.1.2 (sumTo ps i.1.1) (Kf i.1.1) u) (fun i => n - i.1.1) (⟨(0, z), Nat.zero_le _⟩) (by kernel_rfl) (fun _ => by kernel_rfl) ⟨by kernel_rfl, by kernel_rfl, by kernel_rfl⟩ (fun u h => h.2.cast rfl) ?_
  rintro ⟨⟨k, r⟩, hk⟩ gg
  by_cases hlt : k < n
  ·
    refine Good.run (by kernel_rfl) (stop := 1000) 1000 _ ?_
    refine Good.condr (decide ((k : Int) < (n : Int))) true (by kernel_rfl) (by simp; omega) ?_
    refine Good.run (by kernel_rfl) (stop := 1000) 1000 _ ?_
    obtain ⟨x, hx⟩ : ∃ x, L[k]? = some x := ⟨_, List.getElem?_eq_getElem (by rw [hl.len]; exact hlt)⟩
    obtain ⟨p, hp⟩ : ∃ p, ps[k]? = some p := ⟨_, List.getElem?_eq_getElem (by rw [hl.lenp]; exact hlt)⟩
    obtain ⟨ad, hA, hcells⟩ := hl.cells k x hx
    refine Good.askAt 3 (idxS 39 (.slice A n c) k) (.pointer (some (ad.add (k * 4)))) (by kernel_rfl) (fun w1 hw h => by rw [hA]; exact run_idxA (elem := 26) (by kernel_rfl) (by kernel_rfl) hlt) ?_
    refine Good.run (by kernel_rfl) (stop := 1000) 1000 _ ?_
    refine Good.askAt 4 (ldS 26 (ad.add (k * 4))) (x.val) (by kernel_rfl) (fun w1 hw h => run_ldA (vs := x.cl) (by kernel_rfl) (by kernel_rfl) (fun j v hv => keepc hw (hcells j v hv))) ?_
    refine Good.run (by kernel_rfl) (stop := 1000) 1000 _ ?_
    refine Good.callv (fun w1 hw h => rqadd_m (K1 := Kf k) h.q ((hl.elems k x p hx hp).below hw) (show 2 ≤ Kf k ∧ 2 ≤ 40 ∧ Kf k + 40 ≤ 1073741820 from by unfold Kf; omega)) (by kernel_rfl) (fun s => ?_)
    refine Good.run (by kernel_rfl) (stop := 1000) 1000 _ ?_
    refine Good.slot 4 (.int .i64 (IntKind.i64.wrap ((k : Int) + 1))) (.int .i64 ((k + 1 : Nat) : Int)) (by kernel_rfl) (by rw [wrap_succ hlt (by omega)]) ?_
    refine Good.next (⟨(k + 1, s), by show k + 1 ≤ n; omega⟩) (by kernel_rfl) (by show n - (k + 1) < n - k; omega) ⟨by kernel_rfl, by kernel_rfl, by kernel_rfl⟩ (fun u h => by show IsQN s (sumTo ps (k + 1)) (Kf (k + 1)) u; rw [sumTo_succ hp]; exact h.2.mono (show Kf k + 40 + 1 ≤ Kf (k + 1) from by unfold Kf; omega))
  ·
    refine Good.run (by kernel_rfl) (stop := 1000) 1000 _ ?_
    refine Good.condr (decide ((k : Int) < (n : Int))) false (by kernel_rfl) (by simp at hlt ⊢; omega) ?_
    refine Good.run (by kernel_rfl) (stop := 1000) 1000 _ ?_
    refine Good.leave (by kernel_rfl) ?_
    refine Good.run (by kernel_rfl) (stop := 1000) 1000 _ ?_
    have hkn : k = n := by simp at hlt hk; omega
    subst hkn
    refine Good.ret (v := r.val) (by kernel_rfl) (fun w1 hw h => ⟨r, rfl, hw, fun w'' k1 k2 => h w'' k1 k2⟩)
end

end Go.Proofs.Ytjdcolaefhheaaa
