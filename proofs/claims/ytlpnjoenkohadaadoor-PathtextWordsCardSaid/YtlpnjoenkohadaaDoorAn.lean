/-
  The machine's rule for a call that writes old memory in place.
-/
import Derived.Test.YtlpnjoenkohadaaDoorAm
namespace Go.Proofs.YtlpnjoenkohadaaDoor
set_option linter.unusedVariables false
set_option linter.unusedSimpArgs false
open Go.RowKit

/-- Of the old blocks none but L's have changed. -/
structure Chg (L : List Nat) (w w' : World) : Prop where
  os : w'.os = w.os
  tape : w'.tape = w.tape
  output : w'.output = w.output
  size : w.heap.size ≤ w'.heap.size
  block : ∀ k, k < w.heap.size → k ∉ L → w'.heap[k]? = w.heap[k]?
theorem Chg.refl (L : List Nat) (w : World) : Chg L w w := ⟨rfl, rfl, rfl, Nat.le_refl _, fun _ _ _ => rfl⟩
theorem Chg.trans {L : List Nat} {a b c : World} (h : Chg L a b) (k : Chg L b c) : Chg L a c :=
  ⟨k.os.trans h.os, k.tape.trans h.tape, k.output.trans h.output, Nat.le_trans h.size k.size, fun i hi hl => (k.block i (Nat.lt_of_lt_of_le hi h.size) hl).trans (h.block i hi hl)⟩
theorem Chg.of_below {L : List Nat} {a b : World} (h : Below a.heap.size a b) : Chg L a b := ⟨h.os, h.tape, h.output, h.size, fun i hi _ => h.block i hi⟩
theorem Chg.setCell {L : List Nat} {w : World} {p : Addr} (hp : p.block ∈ L) (u : Value) : Chg L w (w.setCell p u) :=
  ⟨rfl, rfl, rfl, by simp [World.setCell], fun k _ hk => Below.heap_setCell _ _ _ _ (by rintro rfl; exact hk hp)⟩
theorem Chg.drew {L : List Nat} {a w : World} (h : Chg L a w) : Chg L a w.drew := ⟨h.os, h.tape, h.output, h.size, h.block⟩
theorem Chg.mono {L L' : List Nat} {a w : World} (h : Chg L a w) (hL : ∀ b ∈ L, b ∈ L') : Chg L' a w := ⟨h.os, h.tape, h.output, h.size, fun k h1 h2 => h.block k h1 fun h3 => h2 (hL k h3)⟩

/-- The call comes back, and may have written L's blocks. -/
def MutPost {X : Type} (w : World) (L : List Nat) (val : X → Value) (G : X → World → Prop) (e : Ending) (w' : World) : Prop :=
  ∃ x, e = .returned (val x) ∧ Chg L w w' ∧ ∀ w'', w'.heap.size ≤ w''.heap.size → (∀ b, b ∈ L ∨ (w.heap.size ≤ b ∧ b < w'.heap.size) → w''.heap[b]? = w'.heap[b]?) → G x w''
def MutRun {X : Type} (P : Program) (w : World) (L : List Nat) (val : X → Value) (G : X → World → Prop) (s : Sem Next) : Prop :=
  ∃ x w', s.run P w = .ok (.value (val x)) w' ∧ Chg L w w' ∧ ∀ w'', w'.heap.size ≤ w''.heap.size → (∀ b, b ∈ L ∨ (w.heap.size ≤ b ∧ b < w'.heap.size) → w''.heap[b]? = w'.heap[b]?) → G x w''
/-- The blocks may be written: they are new, and known to be there. -/
def Own1 (W : World) (L : List Nat) (Φ : World → Prop) : Prop := ∀ w, Φ w → ∀ b ∈ L, W.heap.size ≤ b ∧ ∃ cs ty own, w.heap[b]? = some (.cells cs ty own)
/-- What is left of a fact when L's blocks are written. -/
def Left (L : List Nat) (Φ G Φ' : World → Prop) : Prop := ∀ wa w, wa.heap.size = w.heap.size → (∀ b, b ∉ L → wa.heap[b]? = w.heap[b]?) → Φ wa → G w → Φ' w

section
variable {P : Program} {Δ : List Deferred} {W : World} {Q : Exit → Act → World → Prop} {Φ Φ' : World → Prop} {c : Cfg}
theorem Rep.mut {β : Nat → Nat} {σ : AS} {a : Act} {w w' : World} {L : List Nat} {G : World → Prop} (hr : Rep Δ W β σ Φ a w)
    (hL : Own1 W L Φ)
    (hc : Chg L w w') (hG : ∀ w'', w'.heap.size ≤ w''.heap.size → (∀ b, b ∈ L ∨ (w.heap.size ≤ b ∧ b < w'.heap.size) → w''.heap[b]? = w'.heap[b]?) → G w'')
    (hΦ : Left L Φ G Φ') : Rep Δ W β σ Φ' a w' := by
  have hin : ∀ k, (σ.box k).isSome = true → β k < w.heap.size := fun k hk => by
    obtain ⟨cs, hcs⟩ := Option.isSome_iff_exists.1 hk
    obtain ⟨_, ty, hh⟩ := hr.box k cs hcs
    exact (Array.getElem?_eq_some_iff.1 hh).1
  have hLlt : ∀ b ∈ L, W.heap.size ≤ b ∧ b < w.heap.size := fun b hb => by
    obtain ⟨h1, cs, ty, own, h2⟩ := hL w hr.phi b hb
    exact ⟨h1, (Array.getElem?_eq_some_iff.1 h2).1⟩
  have nb : ∀ k, (σ.box k).isSome = true → β k ∉ L := fun k hk hb => by
    have h1 := hr.keep { w with heap := w.heap.setIfInBounds (β k) (.pending #[] 0) } ⟨by simp, fun b _ h2 h3 => by
      rw [Array.getElem?_setIfInBounds_ne (h3 k hk)]⟩
    obtain ⟨_, cs, ty, own, h2⟩ := hL _ h1 _ hb
    rw [Array.getElem?_setIfInBounds_self_of_lt (hin k hk)] at h2
    cases h2
  refine ⟨hr.tmps, hr.defers, ⟨hc.os.trans hr.bel.os, hc.tape.trans hr.bel.tape, hc.output.trans hr.bel.output, Nat.le_trans hr.bel.size hc.size, fun k hk => ?_⟩, fun k cs hk => ?_, hr.inj, fun w'' hw => ?_⟩
  · rw [hc.block k (Nat.lt_of_lt_of_le hk hr.bel.size) fun hb => by have := (hLlt k hb).1; omega]
    exact hr.bel.block k hk
  · have hs : (σ.box k).isSome = true := by rw [hk]; rfl
    obtain ⟨h1, ty, h2⟩ := hr.box k cs hk
    exact ⟨h1, ty, by rw [hc.block _ (hin k hs) (nb k hs)]; exact h2⟩
  · refine hΦ { w'' with heap := w''.heap.mapIdx fun i o => if i ∈ L then (w.heap[i]?).getD o else o } w'' (by simp) (fun b hb => ?_) (hr.keep _ ⟨?_, fun b h1 h2 h3 => ?_⟩) (hG w'' hw.size fun b hb => ?_)
    · simp only [Array.getElem?_mapIdx, if_neg hb]
      cases w''.heap[b]? <;> rfl
    · simp only [Array.size_mapIdx]; exact Nat.le_trans hc.size hw.size
    · simp only [Array.getElem?_mapIdx]
      by_cases hb : b ∈ L
      · simp only [if_pos hb]
        have hlt : b < w''.heap.size := Nat.lt_of_lt_of_le h2 (Nat.le_trans hc.size hw.size)
        rw [Array.getElem?_eq_getElem hlt, Array.getElem?_eq_getElem h2]
        rfl
      · simp only [if_neg hb]
        rw [hw.heap b h1 (Nat.lt_of_lt_of_le h2 hc.size) h3, hc.block b h2 hb]
        cases w.heap[b]? <;> rfl
    · rcases hb with hb | ⟨h1, h2⟩
      · exact hw.heap b (hLlt b hb).1 (Nat.lt_of_lt_of_le (hLlt b hb).2 hc.size) fun k hk e => nb k hk (e ▸ hb)
      · exact hw.heap b (Nat.le_trans hr.bel.size h1) h2 fun k hk e => by have := hin k hk; omega
def opsFoc (c : Cfg) : Bool := match c.foc with | .ops _ _ => true | _ => false
theorem Good.mut {X : Type} {L : List Nat} {val : X → Value} {g : FuncId} {args : Array Value} {G Φ' : X → World → Prop}
    (hs : ∀ w, Below W.heap.size W w → Φ w → Calls P g args w (MutPost w L val G)) (hL : Own1 W L Φ) (hΦ : ∀ x, Left L Φ (G x) (Φ' x))
    (hf : opsFoc c = true) (hc : nextCallV P c = some (g, args)) (h : ∀ x, Good P Δ W Q (Φ' x) (amBack (.v (val x)) c)) : Good P Δ W Q Φ c := by
  obtain ⟨foc, k, σ⟩ := c
  replace h := fun x => (h x).get
  refine ⟨?_⟩
  unfold nextCallV at hc
  split at hc
  · rename_i g' xs hn
    split at hc
    · rename_i vs hv
      injection hc with hc
      injection hc with h1 h2
      subst h1; subst h2
      unfold nextCall at hn
      split at hn
      · rename_i ops o ho
        split at hn
        · rename_i hw
          unfold nextOp at ho
          simp only at ho
          split at ho
          · rename_i ops' i l
            cases hoi : ops'[i]? with
            | none => rw [hoi] at ho; cases ho
            | some o' =>
              rw [hoi] at ho
              simp only [Option.map_some, Option.some.injEq, Prod.mk.injEq] at ho
              obtain ⟨rfl, rfl⟩ := ho
              intro hwf β a w hr
              show wpOps P ops' (post P Q k) (i :: l) a w
              rw [wpOps_cons]
              unfold wpOp
              simp only [hoi, wantedA_ok hr, hw, if_true]
              refine .inl ?_
              unfold Oper.wp
              rw [acall_ok hn hr, allV_conc hv]
              refine Calls.mono (hs w hr.bel hr.phi) fun e w' he => ?_
              obtain ⟨x, rfl, hch, hG⟩ := he
              simp only [GoodD, amBack, hoi, Option.bind_some] at h
              exact h x (hwf.put _ (by intro k hk; simp [AV.ids] at hk)) β _ w' ((hr.mut hL hch hG (hΦ x)).put o'.dst (.v (val x)))
          · cases hf
          · cases ho
        · cases hn
      · cases hn
    · cases hc
  · cases hc
/-- An operation that writes old memory in place. -/
theorem Good.mutOp {X : Type} {L : List Nat} {val : X → Value} {G Φ' : X → World → Prop} (s : Sem Next)
    (hs : ∀ w, Below W.heap.size W w → Φ w → MutRun P w L val G s) (hL : Own1 W L Φ) (hΦ : ∀ x, Left L Φ (G x) (Φ' x))
    (hf : opsFoc c = true) (hc : askSem c = some s) (h : ∀ x, Good P Δ W Q (Φ' x) (amBack (.v (val x)) c)) : Good P Δ W Q Φ c := by
  obtain ⟨foc, k, σ⟩ := c
  replace h := fun x => (h x).get
  refine ⟨?_⟩
  unfold askSem at hc
  split at hc
  · rename_i ops o ho
    split at hc
    · cases hc
    · rename_i hns
      split at hc
      · rename_i hw
        simp only [Bool.and_eq_true] at hw
        injection hc with hc
        subst hc
        unfold nextOp at ho
        simp only at ho
        split at ho
        · rename_i ops' i l
          cases hoi : ops'[i]? with
          | none => rw [hoi] at ho; cases ho
          | some o' =>
            rw [hoi] at ho
            simp only [Option.map_some, Option.some.injEq, Prod.mk.injEq] at ho
            obtain ⟨rfl, rfl⟩ := ho
            intro hwf β a w hr
            show wpOps P ops' (post P Q k) (i :: l) a w
            rw [wpOps_cons]
            unfold wpOp
            simp only [hoi, wantedA_ok hr, hw.1, if_true]
            refine .inl ?_
            have hrho : ∀ x ∈ o'.op.operands, a.eval x = σ.rho x := fun x hx => by
              rw [hr.eval, AV.conc_isV]; · rfl
              exact List.all_eq_true.1 hw.2 x (by simpa using hx)
            obtain ⟨x, w', hrun, hch, hG⟩ := hs w hr.bel hr.phi
            unfold Oper.wp
            rw [execOp_congr o' (fun cs b e => hns cs b e) hrho, hrun]
            simp only [GoodD, amBack, hoi, Option.bind_some] at h
            exact h x (hwf.put _ (by intro k hk; simp [AV.ids] at hk)) β _ w' ((hr.mut hL hch hG (hΦ x)).put o'.dst (.v (val x)))
        · cases hf
        · cases ho
      · cases hc
  · cases hc

theorem lone_of {ops : Array Oper} {o : Oper} (h : (List.range ops.size).all (fun i => match ops[i]? with
    | some o' => (o'.dst != o.dst) || (List.range ops.size).all (fun k => Nat.beq k i || (descAt ops i ops.size).getD k false || (descAt ops k ops.size).getD i false)
    | none => true) = true) : LoneOp ops o := by
  intro i hi listed j hcl hri hrj
  have hlt : i < ops.size := (Array.getElem?_eq_some_iff.1 hi).1
  have h1 := List.all_eq_true.1 h i (List.mem_range.2 hlt)
  simp only [hi, bne_self_eq_false, Bool.false_or] at h1
  obtain ⟨hiu, oi, hoi, halli⟩ := mem_ready.1 hri
  obtain ⟨hju, oj, hoj, hallj⟩ := mem_ready.1 hrj
  have hltj : j < ops.size := (Array.getElem?_eq_some_iff.1 hoj).1
  have h2 := List.all_eq_true.1 h1 j (List.mem_range.2 hltj)
  simp only [Bool.or_eq_true, Nat.beq_eq] at h2
  rcases h2 with (h2 | h2) | h2
  · exact h2
  · obtain ⟨om, hom, hn⟩ := descAt_spec hcl hiu _ _ h2
    rw [hoj] at hom; injection hom with hom; subst hom
    exact absurd hallj hn
  · obtain ⟨om, hom, hn⟩ := descAt_spec hcl hju _ _ h2
    rw [hoi] at hom; injection hom with hom; subst hom
    exact absurd halli hn
def loneFoc (c : Cfg) : Bool := match c.foc with
  | .any ops (_ + 1) listed => match Region.ready .any ops listed with
    | [i] => match ops[i]? with
      | some o => (List.range ops.size).all (fun i => match ops[i]? with
        | some o' => (o'.dst != o.dst) || (List.range ops.size).all (fun k => Nat.beq k i || (descAt ops i ops.size).getD k false || (descAt ops k ops.size).getD i false)
        | none => true)
      | none => false
    | _ => false
  | _ => false
/-- .. where the region draws its order, and the operation is the only one ready. -/
theorem Good.mutAny {X : Type} {L : List Nat} {val : X → Value} {G Φ' : X → World → Prop} (s : Sem Next)
    (hs : ∀ w, Below W.heap.size W w → Φ w → MutRun P w L val G s) (hL : Own1 W L Φ) (hΦ : ∀ x, Left L Φ (G x) (Φ' x))
    (hf : loneFoc c = true) (hc : askSem c = some s) (h : ∀ x, Good P Δ W Q (Φ' x) (amBack (.v (val x)) c)) : Good P Δ W Q Φ c := by
  obtain ⟨foc, k, σ⟩ := c
  replace h := fun x => (h x).get
  refine ⟨?_⟩
  unfold askSem at hc
  split at hc
  · rename_i ops o ho
    split at hc
    · cases hc
    · rename_i hns
      split at hc
      · rename_i hw
        simp only [Bool.and_eq_true] at hw
        injection hc with hc
        subst hc
        unfold nextOp at ho
        simp only at ho
        split at ho
        · cases hf
        · rename_i ops' fuel listed
          split at ho
          · rename_i i hrd
            cases hoi : ops'[i]? with
            | none => rw [hoi] at ho; cases ho
            | some o' =>
              rw [hoi] at ho
              simp only [Option.map_some, Option.some.injEq, Prod.mk.injEq] at ho
              obtain ⟨rfl, rfl⟩ := ho
              intro hssa hcl hwf
              refine ⟨fun h0 => (by rw [h0] at hrd; cases hrd), fun j hj => ?_⟩
              rw [hrd] at hj
              obtain rfl : j = i := by simpa using hj
              obtain ⟨_, o2, ho2, hall⟩ := mem_ready.1 (show j ∈ Region.ready .any ops' listed by rw [hrd]; simp)
              obtain rfl : o' = o2 := by rw [hoi] at ho2; injection ho2
              have hlone : LoneOp ops' o' := by
                refine lone_of ?_
                unfold loneFoc at hf
                simp only [hrd, hoi] at hf
                exact hf
              refine ⟨o', hoi, .lone hlone fun Δ' β a w Q' i' K' hi' hr hwf' hK => ?_⟩
              unfold wpOp
              simp only [hi', wantedA_ok hr, hw.1, if_true]
              refine .inl ?_
              have hrho : ∀ x ∈ o'.op.operands, a.eval x = σ.rho x := fun x hx => by
                rw [hr.eval, AV.conc_isV]; · rfl
                exact List.all_eq_true.1 hw.2 x (by simpa using hx)
              obtain ⟨x, w', hrun, hch, hG⟩ := hs w hr.bel hr.phi
              unfold Oper.wp
              rw [execOp_congr o' (fun cs b e => hns cs b e) hrho, hrun]
              have hx := h x
              simp only [GoodD, amBack, hrd, hoi, Option.bind_some, Nat.add_one_sub_one] at hx
              have hwf2 : (σ.put o'.dst (.v (val x))).wf := hwf.put _ (by intro k hk; simp [AV.ids] at hk)
              exact hK _ _ _ _ _ (hx hssa (hcl.set_ hoi hall) hwf2) ((hr.mut hL hch hG (hΦ x)).put o'.dst (.v (val x))) hwf2
          · cases ho
        · cases ho
      · cases hc
  · cases hc

/-- What a stable fact knows of memory lies in new memory. -/
theorem CallPost.fresh {X : Type} {w : World} {val : X → Value} {G : X → World → Prop} {e : Ending} {w' : World} (h : CallPost w val G e w') (L : X → List Nat)
    (hL : ∀ x w, G x w → ∀ b ∈ L x, ∃ cs ty own, w.heap[b]? = some (.cells cs ty own)) :
    CallPost w (fun q : X × Nat => val q.1) (fun q u => G q.1 u ∧ (∀ b ∈ L q.1, w.heap.size ≤ b ∧ b < q.2) ∧ q.2 ≤ u.heap.size) e w' := by
  obtain ⟨x, rfl, hb, hG⟩ := h
  refine ⟨(x, w'.heap.size), rfl, hb, fun w'' h1 h2 => ⟨hG w'' h1 h2, fun b hbL => ?_, h1⟩⟩
  have hlt : b < w'.heap.size := by
    obtain ⟨cs, ty, own, h3⟩ := hL x w' (hG w' (Nat.le_refl _) fun _ _ _ => rfl) b hbL
    exact (Array.getElem?_eq_some_iff.1 h3).1
  refine ⟨Nat.le_of_not_lt fun hn => ?_, hlt⟩
  have h3 := hG { w' with heap := w'.heap.setIfInBounds b (.pending #[] 0) } (by simp) fun k k1 k2 => by
    rw [Array.getElem?_setIfInBounds_ne (by omega)]
  obtain ⟨cs, ty, own, h4⟩ := hL x _ h3 b hbL
  rw [Array.getElem?_setIfInBounds_self_of_lt hlt] at h4
  cases h4
theorem MakePost.fresh {X : Type} {w : World} {val : X → Value} {G : X → World → Prop} {s : Sem Next} (h : MakePost P w val G s) (L : X → List Nat)
    (hL : ∀ x w, G x w → ∀ b ∈ L x, ∃ cs ty own, w.heap[b]? = some (.cells cs ty own)) :
    MakePost P w val (fun x u => G x u ∧ ∀ b ∈ L x, w.heap.size ≤ b) s := by
  obtain ⟨x, w', hrun, hb, hG⟩ := h
  refine ⟨x, w', hrun, hb, fun w'' h1 h2 => ⟨hG w'' h1 h2, fun b hbL => ?_⟩⟩
  have hlt : b < w'.heap.size := by
    obtain ⟨cs, ty, own, h3⟩ := hL x w' (hG w' (Nat.le_refl _) fun _ _ _ => rfl) b hbL
    exact (Array.getElem?_eq_some_iff.1 h3).1
  refine Nat.le_of_not_lt fun hn => ?_
  have h3 := hG { w' with heap := w'.heap.setIfInBounds b (.pending #[] 0) } (by simp) fun k k1 k2 => by
    rw [Array.getElem?_setIfInBounds_ne (by omega)]
  obtain ⟨cs, ty, own, h4⟩ := hL x _ h3 b hbL
  rw [Array.getElem?_setIfInBounds_self_of_lt hlt] at h4
  cases h4
theorem CallPost.cast {X : Type} {w : World} {val : X → Value} {G G' : X → World → Prop} {e : Ending} {w' : World} (h : CallPost w val G e w') (hG : ∀ x u, G x u → G' x u) : CallPost w val G' e w' := by
  obtain ⟨x, he, hb, hg⟩ := h
  exact ⟨x, he, hb, fun w'' h1 h2 => hG _ _ (hg w'' h1 h2)⟩
end
end Go.Proofs.YtlpnjoenkohadaaDoor
