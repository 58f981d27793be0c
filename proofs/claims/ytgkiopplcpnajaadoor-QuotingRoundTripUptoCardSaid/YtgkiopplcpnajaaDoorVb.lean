/-
  Quoting: the builder in the machine, bytes that stand for themselves, quoting.
-/
import Derived.Test.YtgkiopplcpnajaaDoorVp
import Derived.Test.YtgkiopplcpnajaaDoorVs
import Derived.Test.YtgkiopplcpnajaaDoorShelf
namespace Go.Proofs.YtgkiopplcpnajaaDoor
set_option linter.unusedVariables false
set_option linter.unusedSimpArgs false
open Go.RowKit

section
variable {P : Program} {Δ : List Deferred} {W : World} {Q : Exit → Act → World → Prop} {Φ : World → Prop} {c : Cfg}
/-- A call that may change all that was made since the function began (no box of the machine's own is open). -/
theorem Good.callB {X : Type} {val : X → Value} {g : FuncId} {args : Array Value} {Φ' : X → World → Prop}
    (hs : ∀ w, Below W.heap.size W w → Φ w → Calls P g args w (fun e w' => ∃ x, e = .returned (val x) ∧ Below W.heap.size w w' ∧ ∀ w'', w'.heap.size ≤ w''.heap.size → (∀ b, W.heap.size ≤ b → b < w'.heap.size → w''.heap[b]? = w'.heap[b]?) → Φ' x w''))
    (hb : c.st.box = fun _ => none) (hf : opsFoc c = true) (hc : nextCallV P c = some (g, args)) (h : ∀ x, Good P Δ W Q (Φ' x) (amBack (.v (val x)) c)) : Good P Δ W Q Φ c := by
  obtain ⟨foc, k, σ⟩ := c
  have hb : σ.box = fun _ => none := hb
  replace h := fun x => (h x).get
  refine ⟨?_⟩
  unfold nextCallV at hc
  split at hc
  · rename_i g' xs hn
    split at hc
    · rename_i vs hv
      injection hc with hc
      injection hc with h1 h2
      subst h1; subst h2
      unfold nextCall at hn
      split at hn
      · rename_i ops o ho
        split at hn
        · rename_i hw
          unfold nextOp at ho
          simp only at ho
          split at ho
          · rename_i ops' i l
            cases hoi : ops'[i]? with
            | none => rw [hoi] at ho; cases ho
            | some o' =>
              rw [hoi] at ho
              simp only [Option.map_some, Option.some.injEq, Prod.mk.injEq] at ho
              obtain ⟨rfl, rfl⟩ := ho
              intro hwf β a w hr
              show wpOps P ops' (post P Q k) (i :: l) a w
              rw [wpOps_cons]
              unfold wpOp
              simp only [hoi, wantedA_ok hr, hw, if_true]
              refine .inl ?_
              unfold Oper.wp
              rw [acall_ok hn hr, allV_conc hv]
              refine Calls.mono (hs w hr.bel hr.phi) fun e w' he => ?_
              obtain ⟨x, rfl, hch, hG⟩ := he
              simp only [GoodD, amBack, hoi, Option.bind_some] at h
              have hr' : Rep Δ W β σ (Φ' x) a w' := ⟨hr.tmps, hr.defers, ⟨hch.os.trans hr.bel.os, hch.tape.trans hr.bel.tape, hch.output.trans hr.bel.output, Nat.le_trans hr.bel.size hch.size, fun k hk => (hch.block k hk).trans (hr.bel.block k hk)⟩, (fun k cs hk => by rw [hb] at hk; cases hk), hr.inj, (fun w'' hw => hG w'' hw.size fun b h1 h2 => hw.heap b h1 h2 fun k hk => by rw [hb] at hk; cases hk)⟩
              exact h x (hwf.put _ (by intro k hk; simp [AV.ids] at hk)) β _ w' (hr'.put o'.dst (.v (val x)))
          · cases hf
          · cases ho
        · cases hn
      · cases hn
    · cases hc
  · cases hc
end

/-! The builder. -/
def BAt (W : World) (g : Nat) (bs : List UInt8) (u : World) : Prop := Lib.IsBuilderF 44 5 W.heap.size g (Lib.byteCells bs) u
theorem ownsRowF_same {u v : World} {B : Nat} {e : TypeId} {x : Value} {n : Nat} {xs : List Value} (h : u.ownsRowF B e 1 x n xs) (e2 : ∀ k, B ≤ k → k < u.heap.size → v.heap[k]? = u.heap[k]?) : v.ownsRowF B e 1 x n xs := by
  refine ⟨h.1, ?_⟩
  rcases h.2 with h1 | ⟨g, cap, cur, fz, h1, h2, h3, rest⟩
  · exact .inl h1
  · exact .inr ⟨g, cap, cur, fz, h1, h2, (e2 g h2 (Array.getElem?_eq_some_iff.1 h3).1).trans h3, rest⟩
theorem builderF_same {u v : World} {T e : TypeId} {B b : Nat} {p : Value} {bs : List Value} (h : Lib.BuilderAtF T e B b p bs u) (e2 : ∀ k, B ≤ k → k < u.heap.size → v.heap[k]? = u.heap[k]?) : Lib.BuilderAtF T e B b p bs v := by
  have hlt := h.lt
  obtain ⟨hB, x, hv, hown, hne⟩ := h
  exact ⟨hB, x, (e2 b hB hlt).trans hv, ownsRowF_same hown e2, hne⟩
theorem BAt.same {W u v : World} {g : Nat} {bs : List UInt8} (h : BAt W g bs u) (e2 : ∀ k, W.heap.size ≤ k → k < u.heap.size → v.heap[k]? = u.heap[k]?) : BAt W g bs v :=
  h.elim (fun x => .inl (builderF_same x e2)) (fun x => .inr (builderF_same x e2))
theorem byteCells_add (l : List UInt8) (c : UInt8) : Lib.byteCells (l ++ [c]) = Lib.byteCells l ++ [.int .u8 c.toNat] := by simp [Lib.byteCells]
theorem byteCells_app (l m : List UInt8) : Lib.byteCells (l ++ m) = Lib.byteCells l ++ Lib.strCells ⟨m.toArray⟩ := by simp [Lib.byteCells, Lib.strCells]
section
variable {W w : World} {g : Nat} {bs l : List UInt8}
theorem make_bld (hB : W.heap.size ≤ w.heap.size) : MakePost Tryd.prog w ptr (fun g u => BAt W g [] u) (allS 44) :=
  ⟨w.heap.size, w.alloc (.cells #[.pointer none, .slice none 0 0] 44), by simp only [allS, Instr.alloc, Sem.run_bind, run_zeroOf (show zeroOf Tryd.prog 44 = some (.agg #[.pointer none, .slice none 0 0]) by kernel_rfl), run_newVar, Result.andThen_ok, Sem.run_pure, ptr]; rfl, below_new _ _, fun w'' h1 h2 => .inl ⟨hB, .slice none 0 0, (alloc_at w _ h1 h2).1, World.ownsRowF_nil _ _ _ _, by simp [Value.ownBlock]⟩⟩
theorem wbyte_m (hw : Below W.heap.size W w) (h : BAt W g bs w) (c : UInt8) (hl : bs.length ≤ 100000000) : Calls Tryd.prog 27 #[ptr g, .int .u8 c.toNat] w (fun e w' => ∃ x : Unit, e = .returned .nilIface ∧ Below W.heap.size w w' ∧ ∀ w'', w'.heap.size ≤ w''.heap.size → (∀ b, W.heap.size ≤ b → b < w'.heap.size → w''.heap[b]? = w'.heap[b]?) → BAt W g (bs ++ [c]) w'') := by
  refine Calls.mono (Any.Builder_WriteByte_k Tryd.layB167 Tryd.layBX W.heap.size g (Lib.byteCells bs) c.toNat w h (by rw [Lib.byteCells_length]; omega) hw.size) fun e w' he => ?_
  obtain ⟨h1, h2, h3, _⟩ := he
  exact ⟨(), h1, h3, fun w'' k1 k2 => by have h4 : BAt W g (bs ++ [c]) w' := .inr (by rw [byteCells_add]; exact h2); exact h4.same k2⟩
theorem wstr_m (hw : Below W.heap.size W w) (h : BAt W g bs w) (hl : bs.length + l.length ≤ 100000000) : Calls Tryd.prog 35 #[ptr g, strOf l] w (fun e w' => ∃ x : Unit, e = .returned (.tuple #[.int .i64 l.length, .nilIface]) ∧ Below W.heap.size w w' ∧ ∀ w'', w'.heap.size ≤ w''.heap.size → (∀ b, W.heap.size ≤ b → b < w'.heap.size → w''.heap[b]? = w'.heap[b]?) → BAt W g (bs ++ l) w'') := by
  refine Calls.mono (Any.Builder_WriteString_k Tryd.layB166 Tryd.layBX W.heap.size g (Lib.byteCells bs) ⟨l.toArray⟩ w h (by rw [Lib.byteCells_length]; show bs.length + l.length ≤ _; omega) hw.size) fun e w' he => ?_
  obtain ⟨h1, h2, h3, _⟩ := he
  exact ⟨(), h1, h3, fun w'' k1 k2 => by have h4 : BAt W g (bs ++ l) w' := .inr (by rw [byteCells_app]; exact h2); exact h4.same k2⟩
theorem bstr_m (hw : Below W.heap.size W w) (h : BAt W g bs w) : Calls Tryd.prog 28 #[ptr g] w (fun e w' => ∃ x : Unit, e = .returned (strOf bs) ∧ Below W.heap.size w w' ∧ ∀ w'' : World, w'.heap.size ≤ w''.heap.size → (∀ b, W.heap.size ≤ b → b < w'.heap.size → w''.heap[b]? = w'.heap[b]?) → True) :=
  Calls.mono (Tryd.Builder_String_any_f W.heap.size g bs w h hw.size) fun e w' he => ⟨(), he.1, he.2.2, fun _ _ _ => trivial⟩
end

/-! Bytes that stand for themselves. -/
def sgnL : List UInt8 := [46, 95, 58, 47, 43, 45, 44, 61, 35]
def letB (c : UInt8) : Bool := (decide (97 ≤ c.toNat) && decide (c.toNat ≤ 122)) || (decide (65 ≤ c.toNat) && decide (c.toNat ≤ 90)) || (decide (48 ≤ c.toNat) && decide (c.toNat ≤ 57))
theorem u8_back (c : UInt8) : (((c.toNat : Nat) : Int).toNat).toUInt8 = c := by simp
theorem sgn_idx (c : UInt8) : decide (Lib.indexByte sgnL c ≥ 0) = [46, 95, 58, 47, 43, 45, 44, 61, 35].contains c.toNat := by
  have key : ∀ n : Fin 256, decide (Lib.indexByte sgnL (UInt8.ofNat n.val) ≥ 0) = [46, 95, 58, 47, 43, 45, 44, 61, 35].contains n.val := by decide +kernel
  have := key ⟨c.toNat, by have := c.toNat_lt; omega⟩
  simpa only [UInt8.ofNat_toNat] using this
theorem hex_idx (c : UInt8) : Lib.indexByte hexT c = valH c := by
  have key : ∀ n : Fin 256, Lib.indexByte hexT (UInt8.ofNat n.val) = valH (UInt8.ofNat n.val) := by decide +kernel
  have := key ⟨c.toNat, by have := c.toNat_lt; omega⟩
  simpa only [UInt8.ofNat_toNat] using this
theorem plain_let {c : UInt8} (h : letB c = true) : plainB c = true := by
  unfold plainB; unfold letB at h; rw [h]; rfl
theorem plain_not {c : UInt8} (h : letB c = false) : plainB c = decide (Lib.indexByte sgnL c ≥ 0) := by
  rw [sgn_idx]; unfold plainB; unfold letB at h; rw [h]; rfl
section
variable {w : World} {l : List UInt8}
theorem sgn_m (c : UInt8) : Calls Tryd.prog 25 #[strOf sgnL, .int .u8 c.toNat] w (CallPost w (fun _ : Unit => .int .i64 (Lib.indexByte sgnL c)) fun _ _ => True) :=
  Calls.mono (Tryd.strings_IndexByte ⟨sgnL.toArray⟩ c.toNat w) fun e w' he => ⟨(), by rw [he.1, u8_back], by rw [he.2]; exact Below.refl _ _, fun _ _ _ => trivial⟩
theorem hexi_m (c : UInt8) : Calls Tryd.prog 25 #[strOf hexT, .int .u8 c.toNat] w (CallPost w (fun _ : Unit => .int .i64 (valH c)) fun _ _ => True) :=
  Calls.mono (Tryd.strings_IndexByte ⟨hexT.toArray⟩ c.toNat w) fun e w' he => ⟨(), by rw [he.1, u8_back, ← hex_idx], by rw [he.2]; exact Below.refl _ _, fun _ _ _ => trivial⟩
set_option maxRecDepth 100000 in
set_option maxHeartbeats 1000000 in
theorem plain_m (c : UInt8) : Calls Tryd.prog 24 #[.int .u8 c.toNat] w (CallPost w (fun _ : Unit => .bool (plainB c)) fun _ _ => True) := by
  have hc : (97 ≤ c.toNat ∧ c.toNat ≤ 122) ∨ (122 < c.toNat) ∨ (90 < c.toNat ∧ c.toNat < 97) ∨ (65 ≤ c.toNat ∧ c.toNat ≤ 90) ∨ (57 < c.toNat ∧ c.toNat < 65) ∨ (48 ≤ c.toNat ∧ c.toNat ≤ 57) ∨ (c.toNat < 48) := by omega
  rcases hc with hc | hc | hc | hc | hc | hc | hc
  · have hL : letB c = true := by unfold letB; simp; omega
    refine Good.enter Tryd.func24 rfl ?_
    refine Good.run (by kernel_rfl) (stop := 2) 1000 _ ?_
    refine Good.slot 5 (.bool (decide ((((c.toNat : Nat)) : Int) ≥ 97))) (.bool true) (by kernel_rfl) (by rw [decide_eq_true (by omega)]) ?_
    refine Good.run (by kernel_rfl) (stop := 6) 1000 _ ?_
    refine Good.slot 9 (.bool (decide ((((c.toNat : Nat)) : Int) ≤ 122))) (.bool true) (by kernel_rfl) (by rw [decide_eq_true (by omega)]) ?_
    refine Good.run (by kernel_rfl) (stop := 1) 1000 _ ?_
    refine Good.run (by kernel_rfl) (stop := 1000) 1000 _ ?_
    refine Good.ret (v := .bool true) (by kernel_rfl) (fun w1 hw h => ⟨(), by rw [plain_let hL], hw, fun _ _ _ => trivial⟩)
  · have hL : letB c = false := by unfold letB; simp; omega
    refine Good.enter Tryd.func24 rfl ?_
    refine Good.run (by kernel_rfl) (stop := 2) 1000 _ ?_
    refine Good.slot 5 (.bool (decide ((((c.toNat : Nat)) : Int) ≥ 97))) (.bool true) (by kernel_rfl) (by rw [decide_eq_true (by omega)]) ?_
    refine Good.run (by kernel_rfl) (stop := 6) 1000 _ ?_
    refine Good.slot 9 (.bool (decide ((((c.toNat : Nat)) : Int) ≤ 122))) (.bool false) (by kernel_rfl) (by rw [decide_eq_false (by omega)]) ?_
    refine Good.run (by kernel_rfl) (stop := 9) 1000 _ ?_
    refine Good.slot 12 (.bool (decide ((((c.toNat : Nat)) : Int) ≥ 65))) (.bool true) (by kernel_rfl) (by rw [decide_eq_true (by omega)]) ?_
    refine Good.run (by kernel_rfl) (stop := 1) 1000 _ ?_
    refine Good.slot 18 (.bool (decide ((((c.toNat : Nat)) : Int) ≤ 90))) (.bool false) (by kernel_rfl) (by rw [decide_eq_false (by omega)]) ?_
    refine Good.run (by kernel_rfl) (stop := 4) 1000 _ ?_
    refine Good.slot 21 (.bool (decide ((((c.toNat : Nat)) : Int) ≥ 48))) (.bool true) (by kernel_rfl) (by rw [decide_eq_true (by omega)]) ?_
    refine Good.run (by kernel_rfl) (stop := 9) 1000 _ ?_
    refine Good.slot 26 (.bool (decide ((((c.toNat : Nat)) : Int) ≤ 57))) (.bool false) (by kernel_rfl) (by rw [decide_eq_false (by omega)]) ?_
    refine Good.run (by kernel_rfl) (stop := 1000) 1000 _ ?_
    refine Good.callv (fun w1 hw h => sgn_m c) (by kernel_rfl) (fun u => ?_)
    refine Good.run (by kernel_rfl) (stop := 1000) 1000 _ ?_
    refine Good.ret (v := .bool (decide (Lib.indexByte sgnL c ≥ 0))) (by kernel_rfl) (fun w1 hw h => ⟨(), by rw [plain_not hL], hw, fun _ _ _ => trivial⟩)
  · have hL : letB c = false := by unfold letB; simp; omega
    refine Good.enter Tryd.func24 rfl ?_
    refine Good.run (by kernel_rfl) (stop := 2) 1000 _ ?_
    refine Good.slot 5 (.bool (decide ((((c.toNat : Nat)) : Int) ≥ 97))) (.bool false) (by kernel_rfl) (by rw [decide_eq_false (by omega)]) ?_
    refine Good.run (by kernel_rfl) (stop := 6) 1000 _ ?_
    refine Good.run (by kernel_rfl) (stop := 9) 1000 _ ?_
    refine Good.slot 12 (.bool (decide ((((c.toNat : Nat)) : Int) ≥ 65))) (.bool true) (by kernel_rfl) (by rw [decide_eq_true (by omega)]) ?_
    refine Good.run (by kernel_rfl) (stop := 1) 1000 _ ?_
    refine Good.slot 18 (.bool (decide ((((c.toNat : Nat)) : Int) ≤ 90))) (.bool false) (by kernel_rfl) (by rw [decide_eq_false (by omega)]) ?_
    refine Good.run (by kernel_rfl) (stop := 4) 1000 _ ?_
    refine Good.slot 21 (.bool (decide ((((c.toNat : Nat)) : Int) ≥ 48))) (.bool true) (by kernel_rfl) (by rw [decide_eq_true (by omega)]) ?_
    refine Good.run (by kernel_rfl) (stop := 9) 1000 _ ?_
    refine Good.slot 26 (.bool (decide ((((c.toNat : Nat)) : Int) ≤ 57))) (.bool false) (by kernel_rfl) (by rw [decide_eq_false (by omega)]) ?_
    refine Good.run (by kernel_rfl) (stop := 1000) 1000 _ ?_
    refine Good.callv (fun w1 hw h => sgn_m c) (by kernel_rfl) (fun u => ?_)
    refine Good.run (by kernel_rfl) (stop := 1000) 1000 _ ?_
    refine Good.ret (v := .bool (decide (Lib.indexByte sgnL c ≥ 0))) (by kernel_rfl) (fun w1 hw h => ⟨(), by rw [plain_not hL], hw, fun _ _ _ => trivial⟩)
  · have hL : letB c = true := by unfold letB; simp; omega
    refine Good.enter Tryd.func24 rfl ?_
    refine Good.run (by kernel_rfl) (stop := 2) 1000 _ ?_
    refine Good.slot 5 (.bool (decide ((((c.toNat : Nat)) : Int) ≥ 97))) (.bool false) (by kernel_rfl) (by rw [decide_eq_false (by omega)]) ?_
    refine Good.run (by kernel_rfl) (stop := 6) 1000 _ ?_
    refine Good.run (by kernel_rfl) (stop := 9) 1000 _ ?_
    refine Good.slot 12 (.bool (decide ((((c.toNat : Nat)) : Int) ≥ 65))) (.bool true) (by kernel_rfl) (by rw [decide_eq_true (by omega)]) ?_
    refine Good.run (by kernel_rfl) (stop := 1) 1000 _ ?_
    refine Good.slot 18 (.bool (decide ((((c.toNat : Nat)) : Int) ≤ 90))) (.bool true) (by kernel_rfl) (by rw [decide_eq_true (by omega)]) ?_
    refine Good.run (by kernel_rfl) (stop := 1000) 1000 _ ?_
    refine Good.ret (v := .bool true) (by kernel_rfl) (fun w1 hw h => ⟨(), by rw [plain_let hL], hw, fun _ _ _ => trivial⟩)
  · have hL : letB c = false := by unfold letB; simp; omega
    refine Good.enter Tryd.func24 rfl ?_
    refine Good.run (by kernel_rfl) (stop := 2) 1000 _ ?_
    refine Good.slot 5 (.bool (decide ((((c.toNat : Nat)) : Int) ≥ 97))) (.bool false) (by kernel_rfl) (by rw [decide_eq_false (by omega)]) ?_
    refine Good.run (by kernel_rfl) (stop := 6) 1000 _ ?_
    refine Good.run (by kernel_rfl) (stop := 9) 1000 _ ?_
    refine Good.slot 12 (.bool (decide ((((c.toNat : Nat)) : Int) ≥ 65))) (.bool false) (by kernel_rfl) (by rw [decide_eq_false (by omega)]) ?_
    refine Good.run (by kernel_rfl) (stop := 1) 1000 _ ?_
    refine Good.run (by kernel_rfl) (stop := 4) 1000 _ ?_
    refine Good.slot 21 (.bool (decide ((((c.toNat : Nat)) : Int) ≥ 48))) (.bool true) (by kernel_rfl) (by rw [decide_eq_true (by omega)]) ?_
    refine Good.run (by kernel_rfl) (stop := 9) 1000 _ ?_
    refine Good.slot 26 (.bool (decide ((((c.toNat : Nat)) : Int) ≤ 57))) (.bool false) (by kernel_rfl) (by rw [decide_eq_false (by omega)]) ?_
    refine Good.run (by kernel_rfl) (stop := 1000) 1000 _ ?_
    refine Good.callv (fun w1 hw h => sgn_m c) (by kernel_rfl) (fun u => ?_)
    refine Good.run (by kernel_rfl) (stop := 1000) 1000 _ ?_
    refine Good.ret (v := .bool (decide (Lib.indexByte sgnL c ≥ 0))) (by kernel_rfl) (fun w1 hw h => ⟨(), by rw [plain_not hL], hw, fun _ _ _ => trivial⟩)
  · have hL : letB c = true := by unfold letB; simp; omega
    refine Good.enter Tryd.func24 rfl ?_
    refine Good.run (by kernel_rfl) (stop := 2) 1000 _ ?_
    refine Good.slot 5 (.bool (decide ((((c.toNat : Nat)) : Int) ≥ 97))) (.bool false) (by kernel_rfl) (by rw [decide_eq_false (by omega)]) ?_
    refine Good.run (by kernel_rfl) (stop := 6) 1000 _ ?_
    refine Good.run (by kernel_rfl) (stop := 9) 1000 _ ?_
    refine Good.slot 12 (.bool (decide ((((c.toNat : Nat)) : Int) ≥ 65))) (.bool false) (by kernel_rfl) (by rw [decide_eq_false (by omega)]) ?_
    refine Good.run (by kernel_rfl) (stop := 1) 1000 _ ?_
    refine Good.run (by kernel_rfl) (stop := 4) 1000 _ ?_
    refine Good.slot 21 (.bool (decide ((((c.toNat : Nat)) : Int) ≥ 48))) (.bool true) (by kernel_rfl) (by rw [decide_eq_true (by omega)]) ?_
    refine Good.run (by kernel_rfl) (stop := 9) 1000 _ ?_
    refine Good.slot 26 (.bool (decide ((((c.toNat : Nat)) : Int) ≤ 57))) (.bool true) (by kernel_rfl) (by rw [decide_eq_true (by omega)]) ?_
    refine Good.run (by kernel_rfl) (stop := 1000) 1000 _ ?_
    refine Good.ret (v := .bool true) (by kernel_rfl) (fun w1 hw h => ⟨(), by rw [plain_let hL], hw, fun _ _ _ => trivial⟩)
  · have hL : letB c = false := by unfold letB; simp; omega
    refine Good.enter Tryd.func24 rfl ?_
    refine Good.run (by kernel_rfl) (stop := 2) 1000 _ ?_
    refine Good.slot 5 (.bool (decide ((((c.toNat : Nat)) : Int) ≥ 97))) (.bool false) (by kernel_rfl) (by rw [decide_eq_false (by omega)]) ?_
    refine Good.run (by kernel_rfl) (stop := 6) 1000 _ ?_
    refine Good.run (by kernel_rfl) (stop := 9) 1000 _ ?_
    refine Good.slot 12 (.bool (decide ((((c.toNat : Nat)) : Int) ≥ 65))) (.bool false) (by kernel_rfl) (by rw [decide_eq_false (by omega)]) ?_
    refine Good.run (by kernel_rfl) (stop := 1) 1000 _ ?_
    refine Good.run (by kernel_rfl) (stop := 4) 1000 _ ?_
    refine Good.slot 21 (.bool (decide ((((c.toNat : Nat)) : Int) ≥ 48))) (.bool false) (by kernel_rfl) (by rw [decide_eq_false (by omega)]) ?_
    refine Good.run (by kernel_rfl) (stop := 9) 1000 _ ?_
    refine Good.run (by kernel_rfl) (stop := 1000) 1000 _ ?_
    refine Good.callv (fun w1 hw h => sgn_m c) (by kernel_rfl) (fun u => ?_)
    refine Good.run (by kernel_rfl) (stop := 1000) 1000 _ ?_
    refine Good.ret (v := .bool (decide (Lib.indexByte sgnL c ≥ 0))) (by kernel_rfl) (fun w1 hw h => ⟨(), by rw [plain_not hL], hw, fun _ _ _ => trivial⟩)
theorem sgnL_at {k : Nat} (h : k < 9) : ∃ b, sgnL[k]? = some b := ⟨_, List.getElem?_eq_getElem (by exact h)⟩
theorem sgn_yes {k : Nat} {c : UInt8} (h : sgnL[k]? = some c) : plainB c = true := by
  have hm : c ∈ sgnL := List.mem_of_getElem? h
  have key : ∀ b ∈ sgnL, plainB b = true := by decide +kernel
  exact key c hm
theorem sgn_no {c : UInt8} (hL : letB c = false) (h : ∀ j, j < 9 → sgnL[j]? ≠ some c) : plainB c = false := by
  have hm : c ∉ sgnL := fun k => by
    obtain ⟨i, hi, e⟩ := List.getElem_of_mem k
    exact h i hi (by rw [List.getElem?_eq_getElem hi, e])
  cases hp : plainB c
  · rfl
  · have key : ∀ n : Fin 256, letB (UInt8.ofNat n.val) = false → plainB (UInt8.ofNat n.val) = true → UInt8.ofNat n.val ∈ sgnL := by decide +kernel
    have := key ⟨c.toNat, by have := c.toNat_lt; omega⟩
    simp only [UInt8.ofNat_toNat] at this
    exact absurd (this hL hp) hm
set_option maxRecDepth 100000 in
set_option maxHeartbeats 1000000 in
theorem stands_m (c : UInt8) : Calls Tryd.prog 29 #[.int .u8 c.toNat] w (CallPost w (fun _ : Unit => .bool (plainB c)) fun _ _ => True) := by
  have hc : (97 ≤ c.toNat ∧ c.toNat ≤ 122) ∨ (122 < c.toNat) ∨ (90 < c.toNat ∧ c.toNat < 97) ∨ (65 ≤ c.toNat ∧ c.toNat ≤ 90) ∨ (57 < c.toNat ∧ c.toNat < 65) ∨ (48 ≤ c.toNat ∧ c.toNat ≤ 57) ∨ (c.toNat < 48) := by omega
  rcases hc with hc | hc | hc | hc | hc | hc | hc
  · have hL : letB c = true := by unfold letB; simp; omega
    refine Good.enter Tryd.func29 rfl ?_
    refine Good.run (by kernel_rfl) (stop := 2) 1000 _ ?_
    refine Good.slot 6 (.bool (decide ((((c.toNat : Nat)) : Int) ≥ 97))) (.bool true) (by kernel_rfl) (by rw [decide_eq_true (by omega)]) ?_
    refine Good.run (by kernel_rfl) (stop := 6) 1000 _ ?_
    refine Good.slot 10 (.bool (decide ((((c.toNat : Nat)) : Int) ≤ 122))) (.bool true) (by kernel_rfl) (by rw [decide_eq_true (by omega)]) ?_
    refine Good.run (by kernel_rfl) (stop := 14) 1000 _ ?_
    refine Good.run (by kernel_rfl) (stop := 1000) 1000 _ ?_
    refine Good.cond true (by kernel_rfl) ?_
    refine Good.run (by kernel_rfl) (stop := 1000) 1000 _ ?_
    refine Good.ret (v := .bool true) (by kernel_rfl) (fun w1 hw h => ⟨(), by rw [plain_let hL], hw, fun _ _ _ => trivial⟩)
  · have hL : letB c = false := by unfold letB; simp; omega
    refine Good.enter Tryd.func29 rfl ?_
    refine Good.run (by kernel_rfl) (stop := 2) 1000 _ ?_
    refine Good.slot 6 (.bool (decide ((((c.toNat : Nat)) : Int) ≥ 97))) (.bool true) (by kernel_rfl) (by rw [decide_eq_true (by omega)]) ?_
    refine Good.run (by kernel_rfl) (stop := 6) 1000 _ ?_
    refine Good.slot 10 (.bool (decide ((((c.toNat : Nat)) : Int) ≤ 122))) (.bool false) (by kernel_rfl) (by rw [decide_eq_false (by omega)]) ?_
    refine Good.run (by kernel_rfl) (stop := 9) 1000 _ ?_
    refine Good.slot 13 (.bool (decide ((((c.toNat : Nat)) : Int) ≥ 65))) (.bool true) (by kernel_rfl) (by rw [decide_eq_true (by omega)]) ?_
    refine Good.run (by kernel_rfl) (stop := 14) 1000 _ ?_
    refine Good.slot 18 (.bool (decide ((((c.toNat : Nat)) : Int) ≤ 90))) (.bool false) (by kernel_rfl) (by rw [decide_eq_false (by omega)]) ?_
    refine Good.run (by kernel_rfl) (stop := 17) 1000 _ ?_
    refine Good.slot 21 (.bool (decide ((((c.toNat : Nat)) : Int) ≥ 48))) (.bool true) (by kernel_rfl) (by rw [decide_eq_true (by omega)]) ?_
    refine Good.run (by kernel_rfl) (stop := 1000) 1000 _ ?_
    refine Good.condr (decide ((((c.toNat : Nat)) : Int) ≤ 57)) false (by kernel_rfl) (by simp; omega) ?_
    refine Good.run (by kernel_rfl) (stop := 1000) 1000 _ ?_
    refine Good.loop (ι := {k : Nat // k ≤ 9 ∧ ∀ j, j < k → sgnL[j]? ≠ some c}) 38 (fun q => ⟨[(0, .v (.int .u8 c.toNat)), (3, .v (strOf sgnL)), (4, .v (.int .i64 q.1))], []⟩) (fun _ _ => True) (fun q => 9 - q.1) (⟨0, by omega, by omega⟩) (by kernel_rfl) (fun _ => by kernel_rfl) ⟨by kernel_rfl, by kernel_rfl, by kernel_rfl⟩ (fun _ _ => trivial) ?_
    rintro ⟨k, hk, hkd⟩ g
    by_cases hlt : k < 9
    ·
      refine Good.run (by kernel_rfl) (stop := 1000) 1000 _ ?_
      refine Good.condr (decide ((k : Int) < 9)) true (by kernel_rfl) (by simp; omega) ?_
      refine Good.run (by kernel_rfl) (stop := 2) 1000 _ ?_
      obtain ⟨b, hb⟩ := sgnL_at hlt
      refine Good.ask (ixS 9 (strOf sgnL) k) (.int .u8 b.toNat) (by kernel_rfl) (fun w1 hw h => run_ixP (by kernel_rfl) hb) ?_
      refine Good.run (by kernel_rfl) (stop := 1000) 1000 _ ?_
      by_cases he : b = c
      ·
        refine Good.condr ((((b.toNat : Nat) : Int) == ((c.toNat : Nat) : Int))) true (by kernel_rfl) (by rw [he]; simp) ?_
        refine Good.run (by kernel_rfl) (stop := 1000) 1000 _ ?_
        refine Good.leave (by kernel_rfl) ?_
        refine Good.run (by kernel_rfl) (stop := 1000) 1000 _ ?_
        refine Good.ret (v := .bool true) (by kernel_rfl) (fun w1 hw h => ⟨(), by rw [sgn_yes (he ▸ hb)], hw, fun _ _ _ => trivial⟩)
      ·
        refine Good.condr ((((b.toNat : Nat) : Int) == ((c.toNat : Nat) : Int))) false (by kernel_rfl) (by rw [beq_eq_false_iff_ne]; intro e; exact he (UInt8.toNat_inj.1 (by omega))) ?_
        refine Good.run (by kernel_rfl) (stop := 1000) 1000 _ ?_
        refine Good.slot 4 (.int .i64 (IntKind.i64.wrap ((k : Int) + 1))) (.int .i64 ((k + 1 : Nat) : Int)) (by kernel_rfl) (by rw [wrap_succ hlt (by decide)]) ?_
        refine Good.next (⟨k + 1, by omega, by intro j hj; by_cases e : j = k; rw [e, hb]; simpa using he; exact hkd j (by omega)⟩) (by kernel_rfl) (by show 9 - (k + 1) < 9 - k; omega) ⟨by kernel_rfl, by kernel_rfl, by kernel_rfl⟩ (fun _ _ => trivial)
    ·
      refine Good.run (by kernel_rfl) (stop := 1000) 1000 _ ?_
      refine Good.condr (decide ((k : Int) < 9)) false (by kernel_rfl) (by simp; omega) ?_
      refine Good.run (by kernel_rfl) (stop := 1000) 1000 _ ?_
      refine Good.leave (by kernel_rfl) ?_
      refine Good.run (by kernel_rfl) (stop := 1000) 1000 _ ?_
      refine Good.ret (v := .bool false) (by kernel_rfl) (fun w1 hw h => ⟨(), by rw [sgn_no hL fun j hj => hkd j (by omega)], hw, fun _ _ _ => trivial⟩)
  · have hL : letB c = false := by unfold letB; simp; omega
    refine Good.enter Tryd.func29 rfl ?_
    refine Good.run (by kernel_rfl) (stop := 2) 1000 _ ?_
    refine Good.slot 6 (.bool (decide ((((c.toNat : Nat)) : Int) ≥ 97))) (.bool false) (by kernel_rfl) (by rw [decide_eq_false (by omega)]) ?_
    refine Good.run (by kernel_rfl) (stop := 6) 1000 _ ?_
    refine Good.run (by kernel_rfl) (stop := 9) 1000 _ ?_
    refine Good.slot 13 (.bool (decide ((((c.toNat : Nat)) : Int) ≥ 65))) (.bool true) (by kernel_rfl) (by rw [decide_eq_true (by omega)]) ?_
    refine Good.run (by kernel_rfl) (stop := 14) 1000 _ ?_
    refine Good.slot 18 (.bool (decide ((((c.toNat : Nat)) : Int) ≤ 90))) (.bool false) (by kernel_rfl) (by rw [decide_eq_false (by omega)]) ?_
    refine Good.run (by kernel_rfl) (stop := 17) 1000 _ ?_
    refine Good.slot 21 (.bool (decide ((((c.toNat : Nat)) : Int) ≥ 48))) (.bool true) (by kernel_rfl) (by rw [decide_eq_true (by omega)]) ?_
    refine Good.run (by kernel_rfl) (stop := 1000) 1000 _ ?_
    refine Good.condr (decide ((((c.toNat : Nat)) : Int) ≤ 57)) false (by kernel_rfl) (by simp; omega) ?_
    refine Good.run (by kernel_rfl) (stop := 1000) 1000 _ ?_
    refine Good.loop (ι := {k : Nat // k ≤ 9 ∧ ∀ j, j < k → sgnL[j]? ≠ some c}) 38 (fun q => ⟨[(0, .v (.int .u8 c.toNat)), (3, .v (strOf sgnL)), (4, .v (.int .i64 q.1))], []⟩) (fun _ _ => True) (fun q => 9 - q.1) (⟨0, by omega, by omega⟩) (by kernel_rfl) (fun _ => by kernel_rfl) ⟨by kernel_rfl, by kernel_rfl, by kernel_rfl⟩ (fun _ _ => trivial) ?_
    rintro ⟨k, hk, hkd⟩ g
    by_cases hlt : k < 9
    ·
      refine Good.run (by kernel_rfl) (stop := 1000) 1000 _ ?_
      refine Good.condr (decide ((k : Int) < 9)) true (by kernel_rfl) (by simp; omega) ?_
      refine Good.run (by kernel_rfl) (stop := 2) 1000 _ ?_
      obtain ⟨b, hb⟩ := sgnL_at hlt
      refine Good.ask (ixS 9 (strOf sgnL) k) (.int .u8 b.toNat) (by kernel_rfl) (fun w1 hw h => run_ixP (by kernel_rfl) hb) ?_
      refine Good.run (by kernel_rfl) (stop := 1000) 1000 _ ?_
      by_cases he : b = c
      ·
        refine Good.condr ((((b.toNat : Nat) : Int) == ((c.toNat : Nat) : Int))) true (by kernel_rfl) (by rw [he]; simp) ?_
        refine Good.run (by kernel_rfl) (stop := 1000) 1000 _ ?_
        refine Good.leave (by kernel_rfl) ?_
        refine Good.run (by kernel_rfl) (stop := 1000) 1000 _ ?_
        refine Good.ret (v := .bool true) (by kernel_rfl) (fun w1 hw h => ⟨(), by rw [sgn_yes (he ▸ hb)], hw, fun _ _ _ => trivial⟩)
      ·
        refine Good.condr ((((b.toNat : Nat) : Int) == ((c.toNat : Nat) : Int))) false (by kernel_rfl) (by rw [beq_eq_false_iff_ne]; intro e; exact he (UInt8.toNat_inj.1 (by omega))) ?_
        refine Good.run (by kernel_rfl) (stop := 1000) 1000 _ ?_
        refine Good.slot 4 (.int .i64 (IntKind.i64.wrap ((k : Int) + 1))) (.int .i64 ((k + 1 : Nat) : Int)) (by kernel_rfl) (by rw [wrap_succ hlt (by decide)]) ?_
        refine Good.next (⟨k + 1, by omega, by intro j hj; by_cases e : j = k; rw [e, hb]; simpa using he; exact hkd j (by omega)⟩) (by kernel_rfl) (by show 9 - (k + 1) < 9 - k; omega) ⟨by kernel_rfl, by kernel_rfl, by kernel_rfl⟩ (fun _ _ => trivial)
    ·
      refine Good.run (by kernel_rfl) (stop := 1000) 1000 _ ?_
      refine Good.condr (decide ((k : Int) < 9)) false (by kernel_rfl) (by simp; omega) ?_
      refine Good.run (by kernel_rfl) (stop := 1000) 1000 _ ?_
      refine Good.leave (by kernel_rfl) ?_
      refine Good.run (by kernel_rfl) (stop := 1000) 1000 _ ?_
      refine Good.ret (v := .bool false) (by kernel_rfl) (fun w1 hw h => ⟨(), by rw [sgn_no hL fun j hj => hkd j (by omega)], hw, fun _ _ _ => trivial⟩)
  · have hL : letB c = true := by unfold letB; simp; omega
    refine Good.enter Tryd.func29 rfl ?_
    refine Good.run (by kernel_rfl) (stop := 2) 1000 _ ?_
    refine Good.slot 6 (.bool (decide ((((c.toNat : Nat)) : Int) ≥ 97))) (.bool false) (by kernel_rfl) (by rw [decide_eq_false (by omega)]) ?_
    refine Good.run (by kernel_rfl) (stop := 6) 1000 _ ?_
    refine Good.run (by kernel_rfl) (stop := 9) 1000 _ ?_
    refine Good.slot 13 (.bool (decide ((((c.toNat : Nat)) : Int) ≥ 65))) (.bool true) (by kernel_rfl) (by rw [decide_eq_true (by omega)]) ?_
    refine Good.run (by kernel_rfl) (stop := 14) 1000 _ ?_
    refine Good.slot 18 (.bool (decide ((((c.toNat : Nat)) : Int) ≤ 90))) (.bool true) (by kernel_rfl) (by rw [decide_eq_true (by omega)]) ?_
    refine Good.run (by kernel_rfl) (stop := 1000) 1000 _ ?_
    refine Good.cond true (by kernel_rfl) ?_
    refine Good.run (by kernel_rfl) (stop := 1000) 1000 _ ?_
    refine Good.ret (v := .bool true) (by kernel_rfl) (fun w1 hw h => ⟨(), by rw [plain_let hL], hw, fun _ _ _ => trivial⟩)
  · have hL : letB c = false := by unfold letB; simp; omega
    refine Good.enter Tryd.func29 rfl ?_
    refine Good.run (by kernel_rfl) (stop := 2) 1000 _ ?_
    refine Good.slot 6 (.bool (decide ((((c.toNat : Nat)) : Int) ≥ 97))) (.bool false) (by kernel_rfl) (by rw [decide_eq_false (by omega)]) ?_
    refine Good.run (by kernel_rfl) (stop := 6) 1000 _ ?_
    refine Good.run (by kernel_rfl) (stop := 9) 1000 _ ?_
    refine Good.slot 13 (.bool (decide ((((c.toNat : Nat)) : Int) ≥ 65))) (.bool false) (by kernel_rfl) (by rw [decide_eq_false (by omega)]) ?_
    refine Good.run (by kernel_rfl) (stop := 14) 1000 _ ?_
    refine Good.run (by kernel_rfl) (stop := 17) 1000 _ ?_
    refine Good.slot 21 (.bool (decide ((((c.toNat : Nat)) : Int) ≥ 48))) (.bool true) (by kernel_rfl) (by rw [decide_eq_true (by omega)]) ?_
    refine Good.run (by kernel_rfl) (stop := 1000) 1000 _ ?_
    refine Good.condr (decide ((((c.toNat : Nat)) : Int) ≤ 57)) false (by kernel_rfl) (by simp; omega) ?_
    refine Good.run (by kernel_rfl) (stop := 1000) 1000 _ ?_
    refine Good.loop (ι := {k : Nat // k ≤ 9 ∧ ∀ j, j < k → sgnL[j]? ≠ some c}) 38 (fun q => ⟨[(0, .v (.int .u8 c.toNat)), (3, .v (strOf sgnL)), (4, .v (.int .i64 q.1))], []⟩) (fun _ _ => True) (fun q => 9 - q.1) (⟨0, by omega, by omega⟩) (by kernel_rfl) (fun _ => by kernel_rfl) ⟨by kernel_rfl, by kernel_rfl, by kernel_rfl⟩ (fun _ _ => trivial) ?_
    rintro ⟨k, hk, hkd⟩ g
    by_cases hlt : k < 9
    ·
      refine Good.run (by kernel_rfl) (stop := 1000) 1000 _ ?_
      refine Good.condr (decide ((k : Int) < 9)) true (by kernel_rfl) (by simp; omega) ?_
      refine Good.run (by kernel_rfl) (stop := 2) 1000 _ ?_
      obtain ⟨b, hb⟩ := sgnL_at hlt
      refine Good.ask (ixS 9 (strOf sgnL) k) (.int .u8 b.toNat) (by kernel_rfl) (fun w1 hw h => run_ixP (by kernel_rfl) hb) ?_
      refine Good.run (by kernel_rfl) (stop := 1000) 1000 _ ?_
      by_cases he : b = c
      ·
        refine Good.condr ((((b.toNat : Nat) : Int) == ((c.toNat : Nat) : Int))) true (by kernel_rfl) (by rw [he]; simp) ?_
        refine Good.run (by kernel_rfl) (stop := 1000) 1000 _ ?_
        refine Good.leave (by kernel_rfl) ?_
        refine Good.run (by kernel_rfl) (stop := 1000) 1000 _ ?_
        refine Good.ret (v := .bool true) (by kernel_rfl) (fun w1 hw h => ⟨(), by rw [sgn_yes (he ▸ hb)], hw, fun _ _ _ => trivial⟩)
      ·
        refine Good.condr ((((b.toNat : Nat) : Int) == ((c.toNat : Nat) : Int))) false (by kernel_rfl) (by rw [beq_eq_false_iff_ne]; intro e; exact he (UInt8.toNat_inj.1 (by omega))) ?_
        refine Good.run (by kernel_rfl) (stop := 1000) 1000 _ ?_
        refine Good.slot 4 (.int .i64 (IntKind.i64.wrap ((k : Int) + 1))) (.int .i64 ((k + 1 : Nat) : Int)) (by kernel_rfl) (by rw [wrap_succ hlt (by decide)]) ?_
        refine Good.next (⟨k + 1, by omega, by intro j hj; by_cases e : j = k; rw [e, hb]; simpa using he; exact hkd j (by omega)⟩) (by kernel_rfl) (by show 9 - (k + 1) < 9 - k; omega) ⟨by kernel_rfl, by kernel_rfl, by kernel_rfl⟩ (fun _ _ => trivial)
    ·
      refine Good.run (by kernel_rfl) (stop := 1000) 1000 _ ?_
      refine Good.condr (decide ((k : Int) < 9)) false (by kernel_rfl) (by simp; omega) ?_
      refine Good.run (by kernel_rfl) (stop := 1000) 1000 _ ?_
      refine Good.leave (by kernel_rfl) ?_
      refine Good.run (by kernel_rfl) (stop := 1000) 1000 _ ?_
      refine Good.ret (v := .bool false) (by kernel_rfl) (fun w1 hw h => ⟨(), by rw [sgn_no hL fun j hj => hkd j (by omega)], hw, fun _ _ _ => trivial⟩)
  · have hL : letB c = true := by unfold letB; simp; omega
    refine Good.enter Tryd.func29 rfl ?_
    refine Good.run (by kernel_rfl) (stop := 2) 1000 _ ?_
    refine Good.slot 6 (.bool (decide ((((c.toNat : Nat)) : Int) ≥ 97))) (.bool false) (by kernel_rfl) (by rw [decide_eq_false (by omega)]) ?_
    refine Good.run (by kernel_rfl) (stop := 6) 1000 _ ?_
    refine Good.run (by kernel_rfl) (stop := 9) 1000 _ ?_
    refine Good.slot 13 (.bool (decide ((((c.toNat : Nat)) : Int) ≥ 65))) (.bool false) (by kernel_rfl) (by rw [decide_eq_false (by omega)]) ?_
    refine Good.run (by kernel_rfl) (stop := 14) 1000 _ ?_
    refine Good.run (by kernel_rfl) (stop := 17) 1000 _ ?_
    refine Good.slot 21 (.bool (decide ((((c.toNat : Nat)) : Int) ≥ 48))) (.bool true) (by kernel_rfl) (by rw [decide_eq_true (by omega)]) ?_
    refine Good.run (by kernel_rfl) (stop := 1000) 1000 _ ?_
    refine Good.condr (decide ((((c.toNat : Nat)) : Int) ≤ 57)) true (by kernel_rfl) (by simp; omega) ?_
    refine Good.run (by kernel_rfl) (stop := 1000) 1000 _ ?_
    refine Good.ret (v := .bool true) (by kernel_rfl) (fun w1 hw h => ⟨(), by rw [plain_let hL], hw, fun _ _ _ => trivial⟩)
  · have hL : letB c = false := by unfold letB; simp; omega
    refine Good.enter Tryd.func29 rfl ?_
    refine Good.run (by kernel_rfl) (stop := 2) 1000 _ ?_
    refine Good.slot 6 (.bool (decide ((((c.toNat : Nat)) : Int) ≥ 97))) (.bool false) (by kernel_rfl) (by rw [decide_eq_false (by omega)]) ?_
    refine Good.run (by kernel_rfl) (stop := 6) 1000 _ ?_
    refine Good.run (by kernel_rfl) (stop := 9) 1000 _ ?_
    refine Good.slot 13 (.bool (decide ((((c.toNat : Nat)) : Int) ≥ 65))) (.bool false) (by kernel_rfl) (by rw [decide_eq_false (by omega)]) ?_
    refine Good.run (by kernel_rfl) (stop := 14) 1000 _ ?_
    refine Good.run (by kernel_rfl) (stop := 17) 1000 _ ?_
    refine Good.slot 21 (.bool (decide ((((c.toNat : Nat)) : Int) ≥ 48))) (.bool false) (by kernel_rfl) (by rw [decide_eq_false (by omega)]) ?_
    refine Good.run (by kernel_rfl) (stop := 1000) 1000 _ ?_
    refine Good.cond false (by kernel_rfl) ?_
    refine Good.run (by kernel_rfl) (stop := 1000) 1000 _ ?_
    refine Good.loop (ι := {k : Nat // k ≤ 9 ∧ ∀ j, j < k → sgnL[j]? ≠ some c}) 38 (fun q => ⟨[(0, .v (.int .u8 c.toNat)), (3, .v (strOf sgnL)), (4, .v (.int .i64 q.1))], []⟩) (fun _ _ => True) (fun q => 9 - q.1) (⟨0, by omega, by omega⟩) (by kernel_rfl) (fun _ => by kernel_rfl) ⟨by kernel_rfl, by kernel_rfl, by kernel_rfl⟩ (fun _ _ => trivial) ?_
    rintro ⟨k, hk, hkd⟩ g
    by_cases hlt : k < 9
    ·
      refine Good.run (by kernel_rfl) (stop := 1000) 1000 _ ?_
      refine Good.condr (decide ((k : Int) < 9)) true (by kernel_rfl) (by simp; omega) ?_
      refine Good.run (by kernel_rfl) (stop := 2) 1000 _ ?_
      obtain ⟨b, hb⟩ := sgnL_at hlt
      refine Good.ask (ixS 9 (strOf sgnL) k) (.int .u8 b.toNat) (by kernel_rfl) (fun w1 hw h => run_ixP (by kernel_rfl) hb) ?_
      refine Good.run (by kernel_rfl) (stop := 1000) 1000 _ ?_
      by_cases he : b = c
      ·
        refine Good.condr ((((b.toNat : Nat) : Int) == ((c.toNat : Nat) : Int))) true (by kernel_rfl) (by rw [he]; simp) ?_
        refine Good.run (by kernel_rfl) (stop := 1000) 1000 _ ?_
        refine Good.leave (by kernel_rfl) ?_
        refine Good.run (by kernel_rfl) (stop := 1000) 1000 _ ?_
        refine Good.ret (v := .bool true) (by kernel_rfl) (fun w1 hw h => ⟨(), by rw [sgn_yes (he ▸ hb)], hw, fun _ _ _ => trivial⟩)
      ·
        refine Good.condr ((((b.toNat : Nat) : Int) == ((c.toNat : Nat) : Int))) false (by kernel_rfl) (by rw [beq_eq_false_iff_ne]; intro e; exact he (UInt8.toNat_inj.1 (by omega))) ?_
        refine Good.run (by kernel_rfl) (stop := 1000) 1000 _ ?_
        refine Good.slot 4 (.int .i64 (IntKind.i64.wrap ((k : Int) + 1))) (.int .i64 ((k + 1 : Nat) : Int)) (by kernel_rfl) (by rw [wrap_succ hlt (by decide)]) ?_
        refine Good.next (⟨k + 1, by omega, by intro j hj; by_cases e : j = k; rw [e, hb]; simpa using he; exact hkd j (by omega)⟩) (by kernel_rfl) (by show 9 - (k + 1) < 9 - k; omega) ⟨by kernel_rfl, by kernel_rfl, by kernel_rfl⟩ (fun _ _ => trivial)
    ·
      refine Good.run (by kernel_rfl) (stop := 1000) 1000 _ ?_
      refine Good.condr (decide ((k : Int) < 9)) false (by kernel_rfl) (by simp; omega) ?_
      refine Good.run (by kernel_rfl) (stop := 1000) 1000 _ ?_
      refine Good.leave (by kernel_rfl) ?_
      refine Good.run (by kernel_rfl) (stop := 1000) 1000 _ ?_
      refine Good.ret (v := .bool false) (by kernel_rfl) (fun w1 hw h => ⟨(), by rw [sgn_no hL fun j hj => hkd j (by omega)], hw, fun _ _ _ => trivial⟩)
end

end Go.Proofs.YtgkiopplcpnajaaDoor
