/-
  A region that draws its order, whose last operations write the very cells that its loads read: what may be waived behind those.
  (Made after the kit's law on loads that are taken first; here an operation that waits for every load need not show the condition anew.)
-/
import Derived.Test.YtlpnjoenkohadaaDoorHeld
import Derived.Deep.DeepCutAuto
namespace Go.Proofs.YtlpnjoenkohadaaDoor
set_option linter.unusedVariables false
set_option linter.unusedSimpArgs false
open Go.RowKit

section
variable {P : Program} {ops : Array Oper} {Q : Exit → Act → World → Prop} {md : Region.Mode} {S : World → Prop} {T : Nat → Bool}

def wpAnyW (P : Program) (md : Region.Mode) (ops : Array Oper) (Q : Exit → Act → World → Prop) (S : World → Prop) (T : Nat → Bool) : Nat → Array Bool → Act → World → Prop
  | 0, listed, a, w => Region.ready md ops listed = [] ∧ Q .normal a w
  | fuel + 1, listed, a, w =>
    (Region.ready md ops listed = [] → Q .normal a w) ∧
    ∀ i ∈ Region.ready md ops listed, wpOp P ops Q i (fun a' w' => (T i = false → S w') ∧ wpAnyW P md ops Q S T fuel (listed.setIfInBounds i true) a' w') a w

theorem wpAny_of_W : ∀ (fuel : Nat) (listed : Array Bool) (a : Act) (w : World), wpAnyW P md ops Q S T fuel listed a w → wpAny P md ops Q fuel listed a w
  | 0, _, _, _, h => h
  | fuel + 1, _, _, _, h => ⟨h.1, fun i hi => wpOp_mono (fun a' w' h' => wpAny_of_W fuel _ a' w' h'.2) (h.2 i hi)⟩

/-- What has come up had all that it waits for come up. -/
def Closed (md : Region.Mode) (ops : Array Oper) (listed : Array Bool) : Prop :=
  ∀ k o, ops[k]? = some o → listed.getD k false = true → ∀ e ∈ o.after, Region.binds md e = true → listed.getD e.on false = true
def closedB (md : Region.Mode) (ops : Array Oper) (listed : Array Bool) : Bool :=
  (List.range ops.size).all fun k => !listed.getD k false || (match ops[k]? with
    | some o => o.after.all fun e => !Region.binds md e || listed.getD e.on false
    | none => true)
theorem closed_spec {listed : Array Bool} (h : closedB md ops listed = true) : Closed md ops listed := by
  intro k o hk hl e he hb
  have hlt : k < ops.size := (Array.getElem?_eq_some_iff.1 hk).1
  have h1 := List.all_eq_true.1 h k (List.mem_range.2 hlt)
  rw [hl, hk] at h1
  simp only [Bool.not_true, Bool.false_or] at h1
  rw [Array.all_eq_true'] at h1
  have h2 := h1 e he
  rw [hb] at h2
  simpa using h2
theorem Closed.set_ {listed : Array Bool} {j : Nat} {oj : Oper} (h : Closed md ops listed) (hj : ops[j]? = some oj) (hall : ∀ e ∈ oj.after, Region.binds md e = true → listed.getD e.on false = true) :
    Closed md ops (listed.setIfInBounds j true) := by
  intro k o hk hl e he hb
  by_cases hkj : j = k
  · subst hkj
    rw [hj] at hk
    injection hk with hk
    subst hk
    exact getD_set_true (hall e he hb)
  · rw [getD_set_ne false hkj] at hl
    exact getD_set_true (h k o hk hl e he hb)
/-- Number j waits for number i, perhaps through others. -/
def anc (md : Region.Mode) (ops : Array Oper) (i : Nat) : Nat → Nat → Bool
  | 0, _ => false
  | f + 1, j => match ops[j]? with
    | some o => o.after.any fun e => Region.binds md e && (e.on == i || anc md ops i f e.on)
    | none => false
theorem anc_listed {listed : Array Bool} {i : Nat} (hc : Closed md ops listed) : ∀ (f j : Nat) (oj : Oper), ops[j]? = some oj → (∀ e ∈ oj.after, Region.binds md e = true → listed.getD e.on false = true) →
    anc md ops i f j = true → listed.getD i false = true := by
  intro f
  induction f with
  | zero => intro j oj _ _ h; cases h
  | succ f ih =>
    intro j oj hj hall h
    rw [anc, hj] at h
    simp only at h
    rw [Array.any_eq_true] at h
    obtain ⟨k, hk, h2⟩ := h
    rw [Bool.and_eq_true, Bool.or_eq_true] at h2
    have hl := hall _ (Array.getElem_mem hk) h2.1
    rcases h2.2 with h3 | h3
    · rw [← beq_iff_eq.1 h3]; exact hl
    · cases ho : ops[oj.after[k].on]? with
      | none => cases f with
        | zero => cases h3
        | succ f => rw [anc, ho] at h3; cases h3
      | some o' => exact ih _ o' ho (fun e he hb => hc _ o' ho hl e he hb) h3
/-- Every waived operation waits for number i. -/
def waits (md : Region.Mode) (ops : Array Oper) (T : Nat → Bool) (i : Nat) : Bool :=
  (List.range ops.size).all fun j => !T j || anc md ops i ops.size j
theorem waits_spec {i : Nat} (h : waits md ops T i = true) : ∀ j oj, ops[j]? = some oj → T j = true → anc md ops i ops.size j = true := by
  intro j oj hj hT
  have hlt : j < ops.size := (Array.getElem?_eq_some_iff.1 hj).1
  have h1 := List.all_eq_true.1 h j (List.mem_range.2 hlt)
  rw [hT] at h1
  simpa using h1

theorem wpAnyW_first {i : Nat} {oi : Oper} {v : Value} (hi : ops[i]? = some oi) (hsel : ∀ (j : Nat) (o : Oper) cs b, ops[j]? = some o → o.op ≠ .select cs b)
    (hQ : ∀ c a w, Q (.panic c) (a.put oi.dst v) w → Q (.panic c) a w) (hT : ∀ j oj, ops[j]? = some oj → T j = true → anc md ops i ops.size j = true) :
    ∀ (fuel : Nat) (listed : Array Bool) (a : Act) (w : World), Closed md ops listed →
      (∀ j oj, ops[j]? = some oj → j ≠ i → listed.getD j true = false → (∀ e ∈ oj.after, Region.binds md e = true → e.on ≠ i) → oi.apart ops oj = true) →
      i ∈ Region.ready md ops listed → YieldsIf P ops S oi v a → S w →
      wpAnyW P md ops Q S T fuel (listed.setIfInBounds i true) (a.put oi.dst v) w → wpAnyW P md ops Q S T (fuel + 1) listed a w := by
  intro fuel
  induction fuel with
  | zero =>
    intro listed a w hcl _ hr hy hS H
    refine ⟨fun h => (by rw [h] at hr; cases hr), fun j hj => ?_⟩
    by_cases hji : j = i
    · subst hji; exact hy.wpOp hi hS ⟨fun _ => hS, H⟩
    · have := ready_mono hj hji
      rw [H.1] at this
      cases this
  | succ fuel ih =>
    intro listed a w hcl hfree hr hy hS H
    refine ⟨fun h => (by rw [h] at hr; cases hr), fun j hj => ?_⟩
    by_cases hji : j = i
    · subst hji; exact hy.wpOp hi hS ⟨fun _ => hS, H⟩
    · have h1 := H.2 j (ready_mono hj hji)
      obtain ⟨hjun, oj, hoj, hall⟩ := mem_ready.1 hj
      have hnot : ∀ e ∈ oj.after, Region.binds md e = true → e.on ≠ i := fun e he hb heq => by
        have h1 := hall e he hb
        have h0 := (mem_ready.1 hr).1
        rw [heq] at h1
        rcases Nat.lt_or_ge i listed.size with h' | h'
        · simp [h'] at h0 h1; rw [h0] at h1; cases h1
        · simp [Array.getElem?_eq_none h'] at h1
      have hTj : T j = false := by
        cases hb : T j with
        | false => rfl
        | true =>
          have h1 := anc_listed hcl _ j oj hoj hall (hT j oj hoj hb)
          have h0 := (mem_ready.1 hr).1
          rcases Nat.lt_or_ge i listed.size with h' | h'
          · simp [h'] at h0 h1; rw [h0] at h1; cases h1
          · simp [Array.getElem?_eq_none h'] at h1
      have h2 := wpOp_putIf hoj (hfree j oj hoj hji hjun hnot) (fun cs b => hsel i oi cs b hi) (fun cs b => hsel j oj cs b hoj) hQ hy h1
      have hfree' : ∀ k ok, ops[k]? = some ok → k ≠ i → (listed.setIfInBounds j true).getD k true = false →
          (∀ e ∈ ok.after, Region.binds md e = true → e.on ≠ i) → oi.apart ops ok = true := fun k ok hk hki hun hno => by
        refine hfree k ok hk hki ?_ hno
        by_cases hjk : j = k
        · subst hjk; exact hjun
        · rw [getD_set_ne true hjk] at hun; exact hun
      refine wpOp_mono (fun a' w' h3 => ⟨h3.2.1, ih (listed.setIfInBounds j true) a' w' (hcl.set_ hoj hall) hfree' (ready_mono hr (Ne.symm hji)) h3.1 (h3.2.1 hTj) ?_⟩) h2
      rw [Array.setIfInBounds_comm _ _ hji]
      exact h3.2.2

theorem wpAnyW_take {i : Nat} {oi : Oper} {v : Value} {fuel : Nat} {listed : Array Bool} {a : Act} {w : World} (hi : ops[i]? = some oi)
    (hs : Region.noSelect ops = true) (hf : Region.free md ops listed i = true) (hr : (Region.ready md ops listed).contains i = true) (hT : waits md ops T i = true) (hcl : closedB md ops listed = true)
    (hQ : ∀ c a w, Q (.panic c) (a.put oi.dst v) w → Q (.panic c) a w) (hy : YieldsIf P ops S oi v a) (hS : S w)
    (h : wpAnyW P md ops Q S T fuel (listed.setIfInBounds i true) (a.put oi.dst v) w) : wpAnyW P md ops Q S T (fuel + 1) listed a w :=
  wpAnyW_first hi (Region.noSelect_spec hs) hQ (waits_spec hT) fuel listed a w (closed_spec hcl) (Region.free_spec hi hf) (by simpa using hr) hy hS h

theorem wpAnyW_done {listed : Array Bool} {a : Act} {w : World} (hr : Region.ready md ops listed = []) (h : Q .normal a w) :
    ∀ fuel, wpAnyW P md ops Q S T fuel listed a w
  | 0 => ⟨hr, h⟩
  | _ + 1 => ⟨fun _ => h, by rw [hr]; simp⟩

def AllReadyW (P : Program) (md : Region.Mode) (ops : Array Oper) (Q : Exit → Act → World → Prop) (S : World → Prop) (T : Nat → Bool) (fuel : Nat) (listed : Array Bool) (a : Act) (w : World) (rs : List Nat) : Prop :=
  ∀ i ∈ rs, wpOp P ops Q i (fun a' w' => (T i = false → S w') ∧ wpAnyW P md ops Q S T fuel (listed.setIfInBounds i true) a' w') a w
theorem AllReadyW.nil {fuel : Nat} {listed : Array Bool} {a : Act} {w : World} : AllReadyW P md ops Q S T fuel listed a w [] := fun _ h => by cases h
theorem AllReadyW.cons {fuel : Nat} {listed : Array Bool} {a : Act} {w : World} {i : Nat} {o : Oper} {rs : List Nat} (ho : ops[i]? = some o) (hT : T i = false)
    (h : ∀ K' : Act → World → Prop, Shut (∀ a w, S w → (S w → wpAnyW P md ops Q S T fuel (listed.setIfInBounds i true) a w) → K' a w) → if Region.wanted o (yielded ops a.tmps) = true then Oper.wp P o a w K' Q else K' (a.put o.dst undef) w)
    (hs : AllReadyW P md ops Q S T fuel listed a w rs) : AllReadyW P md ops Q S T fuel listed a w (i :: rs) := fun j hj => by
  rcases List.mem_cons.1 hj with rfl | hj
  · exact wpOp_step ho (fun K' hK => h K' (fun a w hS hW => hK a w ⟨fun _ => hS, hW hS⟩))
  · exact hs j hj
theorem AllReadyW.consT {fuel : Nat} {listed : Array Bool} {a : Act} {w : World} {i : Nat} {o : Oper} {rs : List Nat} (ho : ops[i]? = some o) (hT : T i = true)
    (h : ∀ K' : Act → World → Prop, Shut (∀ a w, wpAnyW P md ops Q S T fuel (listed.setIfInBounds i true) a w → K' a w) → if Region.wanted o (yielded ops a.tmps) = true then Oper.wp P o a w K' Q else K' (a.put o.dst undef) w)
    (hs : AllReadyW P md ops Q S T fuel listed a w rs) : AllReadyW P md ops Q S T fuel listed a w (i :: rs) := fun j hj => by
  rcases List.mem_cons.1 hj with rfl | hj
  · exact wpOp_step ho (fun K' hK => h K' (fun a w hW => hK a w ⟨fun e => absurd (hT.symm.trans e) (by decide), hW⟩))
  · exact hs j hj
theorem wpAnyW_ready {rs : List Nat} {fuel : Nat} {listed : Array Bool} {a : Act} {w : World} (hr : Region.ready md ops listed = rs) (hne : rs ≠ [])
    (h : AllReadyW P md ops Q S T fuel listed a w rs) : wpAnyW P md ops Q S T (fuel + 1) listed a w := ⟨fun h0 => absurd (hr ▸ h0) hne, hr ▸ h⟩

theorem wpAnyW_takeL {i : Nat} {oi : Oper} {v : Value} (d : Option Tmp) {fuel : Nat} {listed L : Array Bool} {a : Act} {w : World} (hi : ops[i]? = some oi)
    (hs : Region.noSelect ops = true) (hf : Region.free md ops listed i = true) (hr : (Region.ready md ops listed).contains i = true) (hT : waits md ops T i = true) (hcl : closedB md ops listed = true) (hL : listed.setIfInBounds i true = L)
    (hQ : ∀ c a w, Q (.panic c) (a.put oi.dst v) w → Q (.panic c) a w) (hwt : Region.wanted oi (yielded ops a.tmps) = true) (hS : S w) (hd : oi.dst = d) (hy : ∀ w, S w → (execOp a.eval oi).run P w = .ok (.value v) w)
    (h : wpAnyW P md ops Q S T fuel L (a.put d v) w) : wpAnyW P md ops Q S T (fuel + 1) listed a w :=
  wpAnyW_take hi hs hf hr hT hcl hQ (.inl ⟨hwt, hy⟩) hS (by rw [hL, hd]; exact h)
theorem wpAnyW_one {fuel i : Nat} {o : Oper} {listed L : Array Bool} {a : Act} {w : World} (hr : Region.ready md ops listed = [i]) (ho : ops[i]? = some o) (hT : T i = false) (hL : listed.setIfInBounds i true = L) (hwt : Region.wanted o (yielded ops a.tmps) = true)
    (h : ∀ K' : Act → World → Prop, Shut (∀ a w, S w → (S w → wpAnyW P md ops Q S T fuel L a w) → K' a w) → Oper.wp P o a w K' Q) : wpAnyW P md ops Q S T (fuel + 1) listed a w :=
  wpAnyW_ready hr (by simp) (AllReadyW.cons ho hT (fun K' hK => by rw [if_pos hwt]; rw [hL] at hK; exact h K' hK) AllReadyW.nil)
theorem wpAnyW_oneT {fuel i : Nat} {o : Oper} {listed L : Array Bool} {a : Act} {w : World} (hr : Region.ready md ops listed = [i]) (ho : ops[i]? = some o) (hT : T i = true) (hL : listed.setIfInBounds i true = L) (hwt : Region.wanted o (yielded ops a.tmps) = true)
    (h : ∀ K' : Act → World → Prop, Shut (∀ a w, wpAnyW P md ops Q S T fuel L a w → K' a w) → Oper.wp P o a w K' Q) : wpAnyW P md ops Q S T (fuel + 1) listed a w :=
  wpAnyW_ready hr (by simp) (AllReadyW.consT ho hT (fun K' hK => by rw [if_pos hwt]; rw [hL] at hK; exact h K' hK) AllReadyW.nil)
theorem wp_region_WL {id : Nat} {a : Act} {w : World} (N : Nat) (L : Array Bool) (hN : ops.size = N) (hL : Array.replicate N false = L) (hm : P.follows .mixedOrders = true) (hS : S w.drew)
    (h : S w.drew → wpAnyW P .any ops Q S T N L a w.drew) : (Code.region id ops true).wp P Q a w := by
  subst hN
  rw [← hL] at h
  exact wp_region_any hm (wpAny_of_W _ _ _ _ (h hS))
theorem wp_region_W {id : Nat} {a : Act} {w : World} (hm : P.follows .mixedOrders = true) (hS : S w.drew)
    (h : S w.drew → wpAnyW P .any ops Q S T ops.size (Array.replicate ops.size false) a w.drew) : (Code.region id ops true).wp P Q a w :=
  wp_region_any hm (wpAny_of_W _ _ _ _ (h hS))
end

end Go.Proofs.YtlpnjoenkohadaaDoor
