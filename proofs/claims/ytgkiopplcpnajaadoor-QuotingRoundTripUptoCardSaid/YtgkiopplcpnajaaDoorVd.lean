/-
  Quoting: the reverse, program and reference.
-/
import Derived.Test.YtgkiopplcpnajaaDoorVc
namespace Go.Proofs.YtgkiopplcpnajaaDoor
set_option linter.unusedVariables false
set_option linter.unusedSimpArgs false
open Go.RowKit

section
variable {w : World} {l : List UInt8} {o : Option (List UInt8)}
theorem wrap_two {k n : Nat} (h : k + 2 ≤ n) (hn : n ≤ 1000000000) : IntKind.i64.wrap ((k : Int) + 2) = ((k + 2 : Nat) : Int) := by rw [IntWalk.i64_in _ (by omega)]; omega
theorem dig_num (c : UInt8) (h : 48 ≤ c.toNat ∧ c.toNat ≤ 57) : IntKind.i64.wrap (IntKind.u8.wrap (((c.toNat : Nat) : Int) - 48)) = valH c := by
  have key : ∀ n : Fin 256, 48 ≤ n.val → n.val ≤ 57 → IntKind.i64.wrap (IntKind.u8.wrap (((n.val : Nat) : Int) - 48)) = valH (UInt8.ofNat n.val) := by decide +kernel
  have := key ⟨c.toNat, by have := c.toNat_lt; omega⟩ h.1 h.2
  simpa only [UInt8.ofNat_toNat] using this
theorem dig_let (c : UInt8) (h : 97 ≤ c.toNat ∧ c.toNat ≤ 102) : IntKind.i64.wrap (IntKind.i64.wrap (IntKind.u8.wrap (((c.toNat : Nat) : Int) - 97)) + 10) = valH c := by
  have key : ∀ n : Fin 256, 97 ≤ n.val → n.val ≤ 102 → IntKind.i64.wrap (IntKind.i64.wrap (IntKind.u8.wrap (((n.val : Nat) : Int) - 97)) + 10) = valH (UInt8.ofNat n.val) := by decide +kernel
  have := key ⟨c.toNat, by have := c.toNat_lt; omega⟩ h.1 h.2
  simpa only [UInt8.ofNat_toNat] using this
theorem dig_no (c : UInt8) (h : ¬ (48 ≤ c.toNat ∧ c.toNat ≤ 57)) (h2 : ¬ (97 ≤ c.toNat ∧ c.toNat ≤ 102)) : valH c = -1 := by
  unfold valH; rw [if_neg h2, if_neg h]
set_option maxRecDepth 100000 in
set_option maxHeartbeats 1000000 in
theorem digit_m (c : UInt8) : Calls Tryd.prog 26 #[.int .u8 c.toNat] w (CallPost w (fun _ : Unit => .int .i64 (valH c)) fun _ _ => True) := by
  have hc : (48 ≤ c.toNat ∧ c.toNat ≤ 57) ∨ c.toNat < 48 ∨ (57 < c.toNat ∧ c.toNat < 97) ∨ (97 ≤ c.toNat ∧ c.toNat ≤ 102) ∨ 102 < c.toNat := by omega
  rcases hc with hc | hc | hc | hc | hc
  ·
    refine Good.enter Tryd.func26 rfl ?_
    refine Good.run (by kernel_rfl) (stop := 2) 1000 _ ?_
    refine Good.slot 4 (.bool (decide ((((c.toNat : Nat)) : Int) ≥ 48))) (.bool true) (by kernel_rfl) (by rw [decide_eq_true (by omega)]) ?_
    refine Good.run (by kernel_rfl) (stop := 1000) 1000 _ ?_
    refine Good.condr (decide ((((c.toNat : Nat)) : Int) ≤ 57)) true (by kernel_rfl) (by simp; omega) ?_
    refine Good.run (by kernel_rfl) (stop := 1000) 1000 _ ?_
    refine Good.ret (v := .int .i64 (IntKind.i64.wrap (IntKind.u8.wrap (((c.toNat : Nat) : Int) - 48)))) (by kernel_rfl) (fun w1 hw h => ⟨(), by rw [dig_num c hc], hw, fun _ _ _ => trivial⟩)
  · have e := dig_no c (by omega) (by omega)
    refine Good.enter Tryd.func26 rfl ?_
    refine Good.run (by kernel_rfl) (stop := 2) 1000 _ ?_
    refine Good.slot 4 (.bool (decide ((((c.toNat : Nat)) : Int) ≥ 48))) (.bool false) (by kernel_rfl) (by rw [decide_eq_false (by omega)]) ?_
    refine Good.run (by kernel_rfl) (stop := 1000) 1000 _ ?_
    refine Good.cond false (by kernel_rfl) ?_
    refine Good.run (by kernel_rfl) (stop := 2) 1000 _ ?_
    refine Good.slot 13 (.bool (decide ((((c.toNat : Nat)) : Int) ≥ 97))) (.bool false) (by kernel_rfl) (by rw [decide_eq_false (by omega)]) ?_
    refine Good.run (by kernel_rfl) (stop := 1000) 1000 _ ?_
    refine Good.cond false (by kernel_rfl) ?_
    refine Good.run (by kernel_rfl) (stop := 1000) 1000 _ ?_
    refine Good.ret (v := .int .i64 (-1)) (by kernel_rfl) (fun w1 hw h => ⟨(), by rw [e], hw, fun _ _ _ => trivial⟩)
  · have e := dig_no c (by omega) (by omega)
    refine Good.enter Tryd.func26 rfl ?_
    refine Good.run (by kernel_rfl) (stop := 2) 1000 _ ?_
    refine Good.slot 4 (.bool (decide ((((c.toNat : Nat)) : Int) ≥ 48))) (.bool true) (by kernel_rfl) (by rw [decide_eq_true (by omega)]) ?_
    refine Good.run (by kernel_rfl) (stop := 1000) 1000 _ ?_
    refine Good.condr (decide ((((c.toNat : Nat)) : Int) ≤ 57)) false (by kernel_rfl) (by simp; omega) ?_
    refine Good.run (by kernel_rfl) (stop := 2) 1000 _ ?_
    refine Good.slot 13 (.bool (decide ((((c.toNat : Nat)) : Int) ≥ 97))) (.bool false) (by kernel_rfl) (by rw [decide_eq_false (by omega)]) ?_
    refine Good.run (by kernel_rfl) (stop := 1000) 1000 _ ?_
    refine Good.cond false (by kernel_rfl) ?_
    refine Good.run (by kernel_rfl) (stop := 1000) 1000 _ ?_
    refine Good.ret (v := .int .i64 (-1)) (by kernel_rfl) (fun w1 hw h => ⟨(), by rw [e], hw, fun _ _ _ => trivial⟩)
  ·
    refine Good.enter Tryd.func26 rfl ?_
    refine Good.run (by kernel_rfl) (stop := 2) 1000 _ ?_
    refine Good.slot 4 (.bool (decide ((((c.toNat : Nat)) : Int) ≥ 48))) (.bool true) (by kernel_rfl) (by rw [decide_eq_true (by omega)]) ?_
    refine Good.run (by kernel_rfl) (stop := 1000) 1000 _ ?_
    refine Good.condr (decide ((((c.toNat : Nat)) : Int) ≤ 57)) false (by kernel_rfl) (by simp; omega) ?_
    refine Good.run (by kernel_rfl) (stop := 2) 1000 _ ?_
    refine Good.slot 13 (.bool (decide ((((c.toNat : Nat)) : Int) ≥ 97))) (.bool true) (by kernel_rfl) (by rw [decide_eq_true (by omega)]) ?_
    refine Good.run (by kernel_rfl) (stop := 1000) 1000 _ ?_
    refine Good.condr (decide ((((c.toNat : Nat)) : Int) ≤ 102)) true (by kernel_rfl) (by simp; omega) ?_
    refine Good.run (by kernel_rfl) (stop := 1000) 1000 _ ?_
    refine Good.ret (v := .int .i64 (IntKind.i64.wrap (IntKind.i64.wrap (IntKind.u8.wrap (((c.toNat : Nat) : Int) - 97)) + 10))) (by kernel_rfl) (fun w1 hw h => ⟨(), by rw [dig_let c hc], hw, fun _ _ _ => trivial⟩)
  · have e := dig_no c (by omega) (by omega)
    refine Good.enter Tryd.func26 rfl ?_
    refine Good.run (by kernel_rfl) (stop := 2) 1000 _ ?_
    refine Good.slot 4 (.bool (decide ((((c.toNat : Nat)) : Int) ≥ 48))) (.bool true) (by kernel_rfl) (by rw [decide_eq_true (by omega)]) ?_
    refine Good.run (by kernel_rfl) (stop := 1000) 1000 _ ?_
    refine Good.condr (decide ((((c.toNat : Nat)) : Int) ≤ 57)) false (by kernel_rfl) (by simp; omega) ?_
    refine Good.run (by kernel_rfl) (stop := 2) 1000 _ ?_
    refine Good.slot 13 (.bool (decide ((((c.toNat : Nat)) : Int) ≥ 97))) (.bool true) (by kernel_rfl) (by rw [decide_eq_true (by omega)]) ?_
    refine Good.run (by kernel_rfl) (stop := 1000) 1000 _ ?_
    refine Good.condr (decide ((((c.toNat : Nat)) : Int) ≤ 102)) false (by kernel_rfl) (by simp; omega) ?_
    refine Good.run (by kernel_rfl) (stop := 1000) 1000 _ ?_
    refine Good.ret (v := .int .i64 (-1)) (by kernel_rfl) (fun w1 hw h => ⟨(), by rw [e], hw, fun _ _ _ => trivial⟩)
set_option maxRecDepth 100000 in
set_option maxHeartbeats 1000000 in
theorem unquote_m (ho : unqL l = o) (hl : l.length ≤ 90000000) : Calls Tryd.prog 10 #[strOf l] w (CallPost w (fun _ : Unit => unqV o) fun _ _ => True) := by
  by_cases h0 : l = [42]
  · obtain rfl : o = some [] := by rw [← ho, h0]; rfl
    refine Good.enter Tryd.func10 rfl ?_
    refine Good.run (by kernel_rfl) (stop := 1) 1000 _ ?_
    refine Good.run (by kernel_rfl) (stop := 1000) 1 _ ?_
    refine Good.run (by kernel_rfl) (stop := 1) 1000 _ ?_
    refine Good.ask (opS .eql 9 (.tmp 8) (.const (.string ⟨#[42]⟩)) (strOf l) (strOf [42])) (.bool true) (by kernel_rfl) (fun w1 hw h => run_eqS (by simpa using h0)) ?_
    refine Good.run (by kernel_rfl) (stop := 1000) 1000 _ ?_
    refine Good.cond true (by kernel_rfl) ?_
    refine Good.run (by kernel_rfl) (stop := 1000) 1000 _ ?_
    refine Good.ret (v := .tuple #[.string ⟨#[]⟩, .int .i64 0]) (by kernel_rfl) (fun w1 hw h => ⟨(), rfl, hw, fun _ _ _ => trivial⟩)
  refine Good.enter Tryd.func10 rfl ?_
  refine Good.run (by kernel_rfl) (stop := 1) 1000 _ ?_
  refine Good.run (by kernel_rfl) (stop := 1000) 1 _ ?_
  refine Good.run (by kernel_rfl) (stop := 1) 1000 _ ?_
  refine Good.ask (opS .eql 9 (.tmp 8) (.const (.string ⟨#[42]⟩)) (strOf l) (strOf [42])) (.bool false) (by kernel_rfl) (fun w1 hw h => run_eqS (by simpa using h0)) ?_
  refine Good.run (by kernel_rfl) (stop := 1000) 1000 _ ?_
  refine Good.cond false (by kernel_rfl) ?_
  refine Good.run (by kernel_rfl) (stop := 1000) 1000 _ ?_
  refine Good.loop (ι := {q : (Nat × Nat × List UInt8) × (Option Addr × Nat) // q.1.1 ≤ l.length ∧ unqS l = (unqS (l.drop q.1.1)).map (q.1.2.2 ++ ·) ∧ q.1.2.2.length = q.1.2.1 ∧ q.1.2.1 ≤ q.1.1}) 76 (fun q => ⟨[(0, .v (strOf l)), (4, .v (.slice q.1.2.1 q.1.1.2.1 q.1.2.2)), (5, .v (.int .i64 q.1.1.1))], []⟩) (fun q u => OwnR u w.heap.size 5 1 q.1.2.1 q.1.1.2.1 q.1.2.2 (bv q.1.1.2.2)) (fun q => l.length - q.1.1.1) (⟨((0, 0, []), (none, 0)), by simp, by show unqS l = (unqS (l.drop 0)).map ([] ++ ·); rw [List.drop_zero]; cases unqS l <;> rfl, rfl, Nat.le_refl _⟩) (by kernel_rfl) (fun _ => by kernel_rfl) ⟨by kernel_rfl, by kernel_rfl, by kernel_rfl⟩ (fun u h => OwnR.nil_) ?_
  rintro ⟨⟨⟨k, m, p⟩, y, yc⟩, hk⟩ g
  have hk1 : k ≤ l.length := hk.1
  have hk2 : unqS l = (unqS (l.drop k)).map (p ++ ·) := hk.2.1
  have hk3 : p.length = m := hk.2.2.1
  have hk4 : m ≤ k := hk.2.2.2
  by_cases hlt : k < l.length
  ·
    refine Good.run (by kernel_rfl) (stop := 1000) 1000 _ ?_
    refine Good.condr (decide ((k : Int) < (l.length : Int))) true (by kernel_rfl) (by simp; omega) ?_
    refine Good.run (by kernel_rfl) (stop := 2) 1000 _ ?_
    obtain ⟨c, hc⟩ : ∃ c, l[k]? = some c := ⟨_, List.getElem?_eq_getElem hlt⟩
    refine Good.ask (ixS 9 (strOf l) k) (.int .u8 c.toNat) (by kernel_rfl) (fun w1 hw h => run_ixP (by kernel_rfl) hc) ?_
    refine Good.run (by kernel_rfl) (stop := 1000) 1000 _ ?_
    cases hp : plainB c
    case true =>
      have hs := unq_one hk2 hc hp
      refine Good.callv (fun w1 hw h => plain_v hp) (by kernel_rfl) (fun u => ?_)
      refine Good.run (by kernel_rfl) (stop := 1000) 1000 _ ?_
      refine Good.cond true (by kernel_rfl) ?_
      refine Good.run (by kernel_rfl) (stop := 3) 1000 _ ?_
      refine Good.ask (ixS 9 (strOf l) k) (.int .u8 c.toNat) (by kernel_rfl) (fun w1 hw h => run_ixP (by kernel_rfl) hc) ?_
      refine Good.run (by kernel_rfl) (stop := 4) 1000 _ ?_
      refine Good.make (litS 37 1 #[(0, .int .u8 c.toNat)]) (litV 1) (litG 5 #[.int .u8 c.toNat]) (by kernel_rfl) (fun w1 hw h => make_lit (by kernel_rfl)) (fun gb => ?_)
      refine Good.run (by kernel_rfl) (stop := 5) 1000 _ ?_
      refine Good.mutOp (L := bl y) (val := fun (z : Option Addr × Nat) => .slice z.1 (m + 1) z.2) (Φ' := fun (z : Option Addr × Nat) v => OwnR v w.heap.size 5 1 z.1 (m + 1) z.2 (bv (p ++ [c]))) (G := fun (z : Option Addr × Nat) v => OwnR v w.heap.size 5 1 z.1 (m + 1) z.2 (bv (p ++ [c]))) (appS 37 37 (.slice y m yc) (litV 1 gb)) (fun w1 hw h => by have ho : OwnR w1 w.heap.size 5 1 y m yc (bv p) := h.1.1; have ha := appendR_m (P := Tryd.prog) (s := 1) (z := .int .u8 0) (bytes := 1) (m := 1) (cc := 1) (t := 37) (elem := 5) (by kernel_rfl) (by kernel_rfl) rfl (by decide) ho hw.size (litG_reads (n := 1) h.2 rfl) (by intro v hv; simp at hv; rcases hv with rfl; rfl) (by omega) (by decide); have e : bv (p ++ [c]) = bv p ++ [.int .u8 (c).toNat] := by { simp [bv] }; rw [e]; exact ha) (fun w1 h => fun b hb => ⟨((show OwnR w1 w.heap.size 5 1 y m yc (bv p) from h.1.1).lt b hb).1, ((show OwnR w1 w.heap.size 5 1 y m yc (bv p) from h.1.1).blk b hb).2⟩) (fun z wa w1 e1 e2 h hG => hG) (by kernel_rfl) (by kernel_rfl) (fun z => ?_)
      refine Good.run (by kernel_rfl) (stop := 1000) 1000 _ ?_
      refine Good.slot 5 (.int .i64 (IntKind.i64.wrap ((k : Int) + 1))) (.int .i64 ((k + 1 : Nat) : Int)) (by kernel_rfl) (by rw [wrap_succ hlt (by omega)]) ?_
      refine Good.next (⟨((k + 1, m + 1, p ++ [c]), z), by show k + 1 ≤ l.length; omega, hs, by simp [hk3], by show m + 1 ≤ k + 1; omega⟩) (by kernel_rfl) (by show l.length - (k + 1) < l.length - k; omega) ⟨by kernel_rfl, by kernel_rfl, by kernel_rfl⟩ (fun _ h => h)
    refine Good.callv (fun w1 hw h => plain_v hp) (by kernel_rfl) (fun u => ?_)
    refine Good.run (by kernel_rfl) (stop := 1000) 1000 _ ?_
    refine Good.cond false (by kernel_rfl) ?_
    refine Good.run (by kernel_rfl) (stop := 2) 1000 _ ?_
    refine Good.ask (ixS 9 (strOf l) k) (.int .u8 c.toNat) (by kernel_rfl) (fun w1 hw h => run_ixP (by kernel_rfl) hc) ?_
    refine Good.run (by kernel_rfl) (stop := 4) 1000 _ ?_
    by_cases h42 : c = 42
    case neg =>
      obtain rfl : o = none := ho.symm.trans (unqL_none h0 (unq_bad hk2 hc hp h42))
      refine Good.slot 29 (.bool (((c.toNat : Nat) : Int) != 42)) (.bool true) (by kernel_rfl) (by simp; intro e; exact h42 (UInt8.toNat_inj.1 (by have e2 : (42 : UInt8).toNat = 42 := rfl; omega))) ?_
      refine Good.run (by kernel_rfl) (stop := 1000) 1000 _ ?_
      refine Good.cond true (by kernel_rfl) ?_
      refine Good.run (by kernel_rfl) (stop := 1000) 1000 _ ?_
      refine Good.leave (by kernel_rfl) ?_
      refine Good.run (by kernel_rfl) (stop := 1000) 1000 _ ?_
      refine Good.ret (v := .tuple #[.string ⟨#[]⟩, .int .i64 3]) (by kernel_rfl) (fun w1 hw h => ⟨(), rfl, hw, fun _ _ _ => trivial⟩)
    subst h42
    refine Good.slot 29 (.bool ((((42 : UInt8).toNat : Nat) : Int) != 42)) (.bool false) (by kernel_rfl) (by simp) ?_
    refine Good.run (by kernel_rfl) (stop := 1000) 1000 _ ?_
    by_cases hsh : l.length ≤ k + 2
    · obtain rfl : o = none := ho.symm.trans (unqL_none h0 (unq_short hk2 hc hsh))
      refine Good.condr (decide (IntKind.i64.wrap ((k : Int) + 2) ≥ (l.length : Int))) true (by kernel_rfl) (by rw [wrap_two (n := l.length + 1) (by omega) (by omega)]; simp; omega) ?_
      refine Good.run (by kernel_rfl) (stop := 1000) 1000 _ ?_
      refine Good.leave (by kernel_rfl) ?_
      refine Good.run (by kernel_rfl) (stop := 1000) 1000 _ ?_
      refine Good.ret (v := .tuple #[.string ⟨#[]⟩, .int .i64 3]) (by kernel_rfl) (fun w1 hw h => ⟨(), rfl, hw, fun _ _ _ => trivial⟩)
    obtain ⟨a, ha⟩ : ∃ a, l[k + 1]? = some a := ⟨_, List.getElem?_eq_getElem (by omega)⟩
    obtain ⟨b, hb⟩ : ∃ b, l[k + 2]? = some b := ⟨_, List.getElem?_eq_getElem (by omega)⟩
    obtain ⟨d1, d2⟩ := unq_hex hk2 hc ha hb
    refine Good.condr (decide (IntKind.i64.wrap ((k : Int) + 2) ≥ (l.length : Int))) false (by kernel_rfl) (by rw [wrap_two (n := l.length + 1) (by omega) (by omega)]; simp; omega) ?_
    refine Good.run (by kernel_rfl) (stop := 3) 1000 _ ?_
    refine Good.slot 39 (.int .i64 (IntKind.i64.wrap ((k : Int) + 1))) (.int .i64 ((k + 1 : Nat) : Int)) (by kernel_rfl) (by rw [wrap_succ hlt (by omega)]) ?_
    refine Good.askAt 3 (ixS 9 (strOf l) (k + 1 : Nat)) (.int .u8 a.toNat) (by kernel_rfl) (fun w1 hw h => run_ixP (by kernel_rfl) ha) ?_
    refine Good.run (by kernel_rfl) (stop := 8) 1000 _ ?_
    refine Good.slot 44 (.int .i64 (IntKind.i64.wrap ((k : Int) + 2))) (.int .i64 ((k + 2 : Nat) : Int)) (by kernel_rfl) (by rw [wrap_two (n := l.length) (by omega) (by omega)]) ?_
    refine Good.askAt 8 (ixS 9 (strOf l) (k + 2 : Nat)) (.int .u8 b.toNat) (by kernel_rfl) (fun w1 hw h => run_ixP (by kernel_rfl) hb) ?_
    refine Good.run (by kernel_rfl) (stop := 1000) 1000 _ ?_
    refine Good.callv (fun w1 hw h => hexi_m a) (by kernel_rfl) (fun u => ?_)
    refine Good.run (by kernel_rfl) (stop := 1000) 1000 _ ?_
    refine Good.callv (fun w1 hw h => hexi_m b) (by kernel_rfl) (fun u => ?_)
    refine Good.run (by kernel_rfl) (stop := 0) 1000 _ ?_
    refine Good.run (by kernel_rfl) (stop := 1000) 2 _ ?_
    by_cases hva : valH a < 0
    · obtain rfl : o = none := ho.symm.trans (unqL_none h0 (d1 (.inl hva)))
      refine Good.run (by kernel_rfl) (stop := 2) 1000 _ ?_
      refine Good.slot 48 (.bool (decide (valH a < 0))) (.bool true) (by kernel_rfl) (by rw [decide_eq_true hva]) ?_
      refine Good.run (by kernel_rfl) (stop := 1000) 1000 _ ?_
      refine Good.cond true (by kernel_rfl) ?_
      refine Good.run (by kernel_rfl) (stop := 1000) 1000 _ ?_
      refine Good.leave (by kernel_rfl) ?_
      refine Good.run (by kernel_rfl) (stop := 1000) 1000 _ ?_
      refine Good.ret (v := .tuple #[.string ⟨#[]⟩, .int .i64 3]) (by kernel_rfl) (fun w1 hw h => ⟨(), rfl, hw, fun _ _ _ => trivial⟩)
    by_cases hvb : valH b < 0
    · obtain rfl : o = none := ho.symm.trans (unqL_none h0 (d1 (.inr (.inl hvb))))
      refine Good.run (by kernel_rfl) (stop := 2) 1000 _ ?_
      refine Good.slot 48 (.bool (decide (valH a < 0))) (.bool false) (by kernel_rfl) (by rw [decide_eq_false hva]) ?_
      refine Good.run (by kernel_rfl) (stop := 6) 1000 _ ?_
      refine Good.slot 52 (.bool (decide (valH b < 0))) (.bool true) (by kernel_rfl) (by rw [decide_eq_true hvb]) ?_
      refine Good.run (by kernel_rfl) (stop := 1000) 1000 _ ?_
      refine Good.cond true (by kernel_rfl) ?_
      refine Good.run (by kernel_rfl) (stop := 1000) 1000 _ ?_
      refine Good.leave (by kernel_rfl) ?_
      refine Good.run (by kernel_rfl) (stop := 1000) 1000 _ ?_
      refine Good.ret (v := .tuple #[.string ⟨#[]⟩, .int .i64 3]) (by kernel_rfl) (fun w1 hw h => ⟨(), rfl, hw, fun _ _ _ => trivial⟩)
    have hn := byteH_nat a b (by omega) (by omega)
    refine Good.run (by kernel_rfl) (stop := 2) 1000 _ ?_
    refine Good.slot 48 (.bool (decide (valH a < 0))) (.bool false) (by kernel_rfl) (by rw [decide_eq_false hva]) ?_
    refine Good.run (by kernel_rfl) (stop := 6) 1000 _ ?_
    refine Good.slot 52 (.bool (decide (valH b < 0))) (.bool false) (by kernel_rfl) (by rw [decide_eq_false hvb]) ?_
    refine Good.run (by kernel_rfl) (stop := 12) 1000 _ ?_
    refine Good.slot 58 (.int .u8 (IntKind.u8.wrap (bits .or .i64 (IntKind.i64.wrap (valH a * 2 ^ 4)) (valH b)))) (.int .u8 (byteH a b).toNat) (by kernel_rfl) (by rw [hn]) ?_
    cases hpl : plainB (byteH a b)
    case true =>
      obtain rfl : o = none := ho.symm.trans (unqL_none h0 (d1 (.inr (.inr hpl))))
      refine Good.callv (fun w1 hw h => plain_v hpl) (by kernel_rfl) (fun u => ?_)
      refine Good.run (by kernel_rfl) (stop := 1000) 1000 _ ?_
      refine Good.cond true (by kernel_rfl) ?_
      refine Good.run (by kernel_rfl) (stop := 1000) 1000 _ ?_
      refine Good.leave (by kernel_rfl) ?_
      refine Good.run (by kernel_rfl) (stop := 1000) 1000 _ ?_
      refine Good.ret (v := .tuple #[.string ⟨#[]⟩, .int .i64 3]) (by kernel_rfl) (fun w1 hw h => ⟨(), rfl, hw, fun _ _ _ => trivial⟩)
    have hs := d2 (by rw [hpl]; simp; omega)
    refine Good.callv (fun w1 hw h => plain_v hpl) (by kernel_rfl) (fun u => ?_)
    refine Good.run (by kernel_rfl) (stop := 1000) 1000 _ ?_
    refine Good.cond false (by kernel_rfl) ?_
    refine Good.run (by kernel_rfl) (stop := 6) 1000 _ ?_
    refine Good.slot 66 (.int .u8 (IntKind.u8.wrap (bits .or .i64 (IntKind.i64.wrap (valH a * 2 ^ 4)) (valH b)))) (.int .u8 (byteH a b).toNat) (by kernel_rfl) (by rw [hn]) ?_
    refine Good.make (litS 37 1 #[(0, .int .u8 (byteH a b).toNat)]) (litV 1) (litG 5 #[.int .u8 (byteH a b).toNat]) (by kernel_rfl) (fun w1 hw h => make_lit (by kernel_rfl)) (fun gb => ?_)
    refine Good.run (by kernel_rfl) (stop := 7) 1000 _ ?_
    refine Good.mutOp (L := bl y) (val := fun (z : Option Addr × Nat) => .slice z.1 (m + 1) z.2) (Φ' := fun (z : Option Addr × Nat) v => OwnR v w.heap.size 5 1 z.1 (m + 1) z.2 (bv (p ++ [byteH a b]))) (G := fun (z : Option Addr × Nat) v => OwnR v w.heap.size 5 1 z.1 (m + 1) z.2 (bv (p ++ [byteH a b]))) (appS 37 37 (.slice y m yc) (litV 1 gb)) (fun w1 hw h => by have ho : OwnR w1 w.heap.size 5 1 y m yc (bv p) := h.1.1.1.1.1; have ha := appendR_m (P := Tryd.prog) (s := 1) (z := .int .u8 0) (bytes := 1) (m := 1) (cc := 1) (t := 37) (elem := 5) (by kernel_rfl) (by kernel_rfl) rfl (by decide) ho hw.size (litG_reads (n := 1) h.2 rfl) (by intro v hv; simp at hv; rcases hv with rfl; rfl) (by omega) (by decide); have e : bv (p ++ [byteH a b]) = bv p ++ [.int .u8 (byteH a b).toNat] := by { simp [bv] }; rw [e]; exact ha) (fun w1 h => fun b hb => ⟨((show OwnR w1 w.heap.size 5 1 y m yc (bv p) from h.1.1.1.1.1).lt b hb).1, ((show OwnR w1 w.heap.size 5 1 y m yc (bv p) from h.1.1.1.1.1).blk b hb).2⟩) (fun z wa w1 e1 e2 h hG => hG) (by kernel_rfl) (by kernel_rfl) (fun z => ?_)
    refine Good.run (by kernel_rfl) (stop := 1000) 1000 _ ?_
    refine Good.slot 5 (.int .i64 (IntKind.i64.wrap (IntKind.i64.wrap ((k : Int) + 2) + 1))) (.int .i64 ((k + 3 : Nat) : Int)) (by kernel_rfl) (by rw [wrap_two (n := l.length) (by omega) (by omega), wrap_succ (n := l.length) (by omega) (by omega)]) ?_
    refine Good.next (⟨((k + 3, m + 1, p ++ [byteH a b]), z), by show k + 3 ≤ l.length; omega, hs, by simp [hk3], by show m + 1 ≤ k + 3; omega⟩) (by kernel_rfl) (by show l.length - (k + 3) < l.length - k; omega) ⟨by kernel_rfl, by kernel_rfl, by kernel_rfl⟩ (fun _ h => h)
  · have hd := unq_end hk2 (by omega)
    refine Good.run (by kernel_rfl) (stop := 1000) 1000 _ ?_
    refine Good.condr (decide ((k : Int) < (l.length : Int))) false (by kernel_rfl) (by simp; omega) ?_
    refine Good.run (by kernel_rfl) (stop := 1000) 1000 _ ?_
    refine Good.leave (by kernel_rfl) ?_
    refine Good.run (by kernel_rfl) (stop := 1000) 1000 _ ?_
    by_cases hm : m = 0
    · obtain rfl : p = [] := List.length_eq_zero_iff.1 (by omega)
      obtain rfl : o = none := ho.symm.trans (unqL_nil h0 hd)
      refine Good.condr (((m : Int) == 0)) true (by kernel_rfl) (by simp [hm]) ?_
      refine Good.run (by kernel_rfl) (stop := 1000) 1000 _ ?_
      refine Good.ret (v := .tuple #[.string ⟨#[]⟩, .int .i64 3]) (by kernel_rfl) (fun w1 hw h => ⟨(), rfl, hw, fun _ _ _ => trivial⟩)
    · obtain rfl : o = some p := ho.symm.trans (unqL_some h0 hd (by rintro rfl; exact hm hk3.symm))
      refine Good.condr (((m : Int) == 0)) false (by kernel_rfl) (by simp [hm]) ?_
      refine Good.run (by kernel_rfl) (stop := 1) 1000 _ ?_
      refine Good.ask (cvS 37 9 (.slice y m yc)) (strOf p) (by kernel_rfl) (fun w1 hw h => by subst hk3; exact run_cv (e := 5) (by kernel_rfl) (by kernel_rfl) (by kernel_rfl) h) ?_
      refine Good.run (by kernel_rfl) (stop := 1000) 1000 _ ?_
      refine Good.ret (v := .tuple #[strOf p, .int .i64 0]) (by kernel_rfl) (fun w1 hw h => ⟨(), rfl, hw, fun _ _ _ => trivial⟩)
set_option maxRecDepth 100000 in
set_option maxHeartbeats 1000000 in
theorem runquote_m (ho : unqL l = o) (hl : l.length ≤ 10000) : Calls Tryd.prog 11 #[strOf l] w (CallPost w (fun _ : Unit => unqV o) fun _ _ => True) := by
  by_cases h0 : l = [42]
  · obtain rfl : o = some [] := by rw [← ho, h0]; rfl
    refine Good.enter Tryd.func11 rfl ?_
    refine Good.run (by kernel_rfl) (stop := 1) 1000 _ ?_
    refine Good.run (by kernel_rfl) (stop := 1000) 1 _ ?_
    refine Good.run (by kernel_rfl) (stop := 1) 1000 _ ?_
    refine Good.ask (opS .eql 9 (.tmp 7) (.const (.string ⟨#[42]⟩)) (strOf l) (strOf [42])) (.bool true) (by kernel_rfl) (fun w1 hw h => run_eqS (by simpa using h0)) ?_
    refine Good.run (by kernel_rfl) (stop := 1000) 1000 _ ?_
    refine Good.cond true (by kernel_rfl) ?_
    refine Good.run (by kernel_rfl) (stop := 1000) 1000 _ ?_
    refine Good.ret (v := .tuple #[.string ⟨#[]⟩, .int .i64 0]) (by kernel_rfl) (fun w1 hw h => ⟨(), rfl, hw, fun _ _ _ => trivial⟩)
  refine Good.enter Tryd.func11 rfl ?_
  refine Good.run (by kernel_rfl) (stop := 1) 1000 _ ?_
  refine Good.run (by kernel_rfl) (stop := 1000) 1 _ ?_
  refine Good.run (by kernel_rfl) (stop := 1) 1000 _ ?_
  refine Good.ask (opS .eql 9 (.tmp 7) (.const (.string ⟨#[42]⟩)) (strOf l) (strOf [42])) (.bool false) (by kernel_rfl) (fun w1 hw h => run_eqS (by simpa using h0)) ?_
  refine Good.run (by kernel_rfl) (stop := 1000) 1000 _ ?_
  refine Good.cond false (by kernel_rfl) ?_
  refine Good.run (by kernel_rfl) (stop := 1000) 1000 _ ?_
  refine Good.loop (ι := {q : (Nat × Nat × List UInt8) × (Option Addr × Nat) // q.1.1 ≤ l.length ∧ refS l = (refS (l.drop q.1.1)).map (q.1.2.2 ++ ·) ∧ q.1.2.2.length = q.1.2.1 ∧ q.1.2.1 ≤ q.1.1}) 72 (fun q => ⟨[(0, .v (strOf l)), (4, .v (.slice q.1.2.1 q.1.1.2.1 q.1.2.2)), (5, .v (.int .i64 q.1.1.1))], []⟩) (fun q u => OwnR u w.heap.size 5 1 q.1.2.1 q.1.1.2.1 q.1.2.2 (bv q.1.1.2.2)) (fun q => l.length - q.1.1.1) (⟨((0, 0, []), (none, 0)), by simp, by show refS l = (refS (l.drop 0)).map ([] ++ ·); rw [List.drop_zero]; cases refS l <;> rfl, rfl, Nat.le_refl _⟩) (by kernel_rfl) (fun _ => by kernel_rfl) ⟨by kernel_rfl, by kernel_rfl, by kernel_rfl⟩ (fun u h => OwnR.nil_) ?_
  rintro ⟨⟨⟨k, m, p⟩, y, yc⟩, hk⟩ g
  have hk1 : k ≤ l.length := hk.1
  have hk2 : refS l = (refS (l.drop k)).map (p ++ ·) := hk.2.1
  have hk3 : p.length = m := hk.2.2.1
  have hk4 : m ≤ k := hk.2.2.2
  by_cases hlt : k < l.length
  ·
    refine Good.run (by kernel_rfl) (stop := 1000) 1000 _ ?_
    refine Good.condr (decide ((k : Int) < (l.length : Int))) true (by kernel_rfl) (by simp; omega) ?_
    refine Good.run (by kernel_rfl) (stop := 2) 1000 _ ?_
    obtain ⟨c, hc⟩ : ∃ c, l[k]? = some c := ⟨_, List.getElem?_eq_getElem hlt⟩
    refine Good.ask (ixS 9 (strOf l) k) (.int .u8 c.toNat) (by kernel_rfl) (fun w1 hw h => run_ixP (by kernel_rfl) hc) ?_
    refine Good.run (by kernel_rfl) (stop := 1000) 1000 _ ?_
    by_cases h42 : c = 42
    case neg =>
      have hs := ref_one hk2 hc h42
      refine Good.condr (((((c.toNat : Nat) : Int)) == 42)) false (by kernel_rfl) (by simp; intro e; exact h42 (UInt8.toNat_inj.1 (by have e2 : (42 : UInt8).toNat = 42 := rfl; omega))) ?_
      refine Good.run (by kernel_rfl) (stop := 2) 1000 _ ?_
      refine Good.make (litS 37 1 #[(0, .int .u8 c.toNat)]) (litV 1) (litG 5 #[.int .u8 c.toNat]) (by kernel_rfl) (fun w1 hw h => make_lit (by kernel_rfl)) (fun gb => ?_)
      refine Good.run (by kernel_rfl) (stop := 3) 1000 _ ?_
      refine Good.mutOp (L := bl y) (val := fun (z : Option Addr × Nat) => .slice z.1 (m + 1) z.2) (Φ' := fun (z : Option Addr × Nat) v => OwnR v w.heap.size 5 1 z.1 (m + 1) z.2 (bv (p ++ [c]))) (G := fun (z : Option Addr × Nat) v => OwnR v w.heap.size 5 1 z.1 (m + 1) z.2 (bv (p ++ [c]))) (appS 37 37 (.slice y m yc) (litV 1 gb)) (fun w1 hw h => by have ho : OwnR w1 w.heap.size 5 1 y m yc (bv p) := h.1; have ha := appendR_m (P := Tryd.prog) (s := 1) (z := .int .u8 0) (bytes := 1) (m := 1) (cc := 1) (t := 37) (elem := 5) (by kernel_rfl) (by kernel_rfl) rfl (by decide) ho hw.size (litG_reads (n := 1) h.2 rfl) (by intro v hv; simp at hv; rcases hv with rfl; rfl) (by omega) (by decide); have e : bv (p ++ [c]) = bv p ++ [.int .u8 (c).toNat] := by { simp [bv] }; rw [e]; exact ha) (fun w1 h => fun b hb => ⟨((show OwnR w1 w.heap.size 5 1 y m yc (bv p) from h.1).lt b hb).1, ((show OwnR w1 w.heap.size 5 1 y m yc (bv p) from h.1).blk b hb).2⟩) (fun z wa w1 e1 e2 h hG => hG) (by kernel_rfl) (by kernel_rfl) (fun z => ?_)
      refine Good.run (by kernel_rfl) (stop := 1000) 1000 _ ?_
      refine Good.slot 5 (.int .i64 (IntKind.i64.wrap ((k : Int) + 1))) (.int .i64 ((k + 1 : Nat) : Int)) (by kernel_rfl) (by rw [wrap_succ hlt (by omega)]) ?_
      refine Good.next (⟨((k + 1, m + 1, p ++ [c]), z), by show k + 1 ≤ l.length; omega, hs, by simp [hk3], by show m + 1 ≤ k + 1; omega⟩) (by kernel_rfl) (by show l.length - (k + 1) < l.length - k; omega) ⟨by kernel_rfl, by kernel_rfl, by kernel_rfl⟩ (fun _ h => h)
    subst h42
    refine Good.condr ((((((42 : UInt8).toNat : Nat) : Int)) == 42)) true (by kernel_rfl) (by simp) ?_
    refine Good.run (by kernel_rfl) (stop := 5) 1000 _ ?_
    by_cases hsh : l.length ≤ k + 2
    · obtain rfl : o = none := ho.symm.trans (refL_none h0 (ref_short hk2 hc hsh))
      refine Good.slot 24 (.bool (decide (IntKind.i64.wrap ((k : Int) + 2) ≥ (l.length : Int)))) (.bool true) (by kernel_rfl) (by rw [decide_eq_true]; rw [wrap_two (n := l.length + 1) (by omega) (by omega)]; omega) ?_
      refine Good.run (by kernel_rfl) (stop := 1000) 1000 _ ?_
      refine Good.cond true (by kernel_rfl) ?_
      refine Good.run (by kernel_rfl) (stop := 1000) 1000 _ ?_
      refine Good.leave (by kernel_rfl) ?_
      refine Good.run (by kernel_rfl) (stop := 1000) 1000 _ ?_
      refine Good.ret (v := .tuple #[.string ⟨#[]⟩, .int .i64 3]) (by kernel_rfl) (fun w1 hw h => ⟨(), rfl, hw, fun _ _ _ => trivial⟩)
    obtain ⟨a, ha⟩ : ∃ a, l[k + 1]? = some a := ⟨_, List.getElem?_eq_getElem (by omega)⟩
    obtain ⟨b, hb⟩ : ∃ b, l[k + 2]? = some b := ⟨_, List.getElem?_eq_getElem (by omega)⟩
    obtain ⟨d1, d2⟩ := ref_hex hk2 hc ha hb
    refine Good.slot 24 (.bool (decide (IntKind.i64.wrap ((k : Int) + 2) ≥ (l.length : Int)))) (.bool false) (by kernel_rfl) (by rw [decide_eq_false]; rw [wrap_two (n := l.length + 1) (by omega) (by omega)]; omega) ?_
    refine Good.run (by kernel_rfl) (stop := 9) 1000 _ ?_
    refine Good.slot 28 (.int .i64 (IntKind.i64.wrap ((k : Int) + 1))) (.int .i64 ((k + 1 : Nat) : Int)) (by kernel_rfl) (by rw [wrap_succ hlt (by omega)]) ?_
    refine Good.ask (ixS 9 (strOf l) (k + 1 : Nat)) (.int .u8 a.toNat) (by kernel_rfl) (fun w1 hw h => run_ixP (by kernel_rfl) ha) ?_
    refine Good.run (by kernel_rfl) (stop := 1000) 1000 _ ?_
    refine Good.callv (fun w1 hw h => digit_m a) (by kernel_rfl) (fun u => ?_)
    refine Good.run (by kernel_rfl) (stop := 13) 1000 _ ?_
    by_cases hva : valH a < 0
    · obtain rfl : o = none := ho.symm.trans (refL_none h0 (d1 (.inl hva)))
      refine Good.slot 32 (.bool (decide (valH a < 0))) (.bool true) (by kernel_rfl) (by rw [decide_eq_true hva]) ?_
      refine Good.run (by kernel_rfl) (stop := 1000) 1000 _ ?_
      refine Good.cond true (by kernel_rfl) ?_
      refine Good.run (by kernel_rfl) (stop := 1000) 1000 _ ?_
      refine Good.leave (by kernel_rfl) ?_
      refine Good.run (by kernel_rfl) (stop := 1000) 1000 _ ?_
      refine Good.ret (v := .tuple #[.string ⟨#[]⟩, .int .i64 3]) (by kernel_rfl) (fun w1 hw h => ⟨(), rfl, hw, fun _ _ _ => trivial⟩)
    refine Good.slot 32 (.bool (decide (valH a < 0))) (.bool false) (by kernel_rfl) (by rw [decide_eq_false hva]) ?_
    refine Good.run (by kernel_rfl) (stop := 17) 1000 _ ?_
    refine Good.slot 36 (.int .i64 (IntKind.i64.wrap ((k : Int) + 2))) (.int .i64 ((k + 2 : Nat) : Int)) (by kernel_rfl) (by rw [wrap_two (n := l.length) (by omega) (by omega)]) ?_
    refine Good.ask (ixS 9 (strOf l) (k + 2 : Nat)) (.int .u8 b.toNat) (by kernel_rfl) (fun w1 hw h => run_ixP (by kernel_rfl) hb) ?_
    refine Good.run (by kernel_rfl) (stop := 1000) 1000 _ ?_
    refine Good.callv (fun w1 hw h => digit_m b) (by kernel_rfl) (fun u => ?_)
    refine Good.run (by kernel_rfl) (stop := 1000) 1000 _ ?_
    by_cases hvb : valH b < 0
    · obtain rfl : o = none := ho.symm.trans (refL_none h0 (d1 (.inr hvb)))
      refine Good.condr (decide (valH b < 0)) true (by kernel_rfl) (decide_eq_true hvb) ?_
      refine Good.run (by kernel_rfl) (stop := 1000) 1000 _ ?_
      refine Good.leave (by kernel_rfl) ?_
      refine Good.run (by kernel_rfl) (stop := 1000) 1000 _ ?_
      refine Good.ret (v := .tuple #[.string ⟨#[]⟩, .int .i64 3]) (by kernel_rfl) (fun w1 hw h => ⟨(), rfl, hw, fun _ _ _ => trivial⟩)
    have hn := byteH_sum a b (by omega) (by omega)
    have hs := d2 (by simp; omega)
    refine Good.condr (decide (valH b < 0)) false (by kernel_rfl) (decide_eq_false hvb) ?_
    refine Good.run (by kernel_rfl) (stop := 3) 1000 _ ?_
    refine Good.slot 43 (.int .i64 (IntKind.i64.wrap ((k : Int) + 1))) (.int .i64 ((k + 1 : Nat) : Int)) (by kernel_rfl) (by rw [wrap_succ hlt (by omega)]) ?_
    refine Good.askAt 3 (ixS 9 (strOf l) (k + 1 : Nat)) (.int .u8 a.toNat) (by kernel_rfl) (fun w1 hw h => run_ixP (by kernel_rfl) ha) ?_
    refine Good.run (by kernel_rfl) (stop := 9) 1000 _ ?_
    refine Good.slot 49 (.int .i64 (IntKind.i64.wrap ((k : Int) + 2))) (.int .i64 ((k + 2 : Nat) : Int)) (by kernel_rfl) (by rw [wrap_two (n := l.length) (by omega) (by omega)]) ?_
    refine Good.askAt 9 (ixS 9 (strOf l) (k + 2 : Nat)) (.int .u8 b.toNat) (by kernel_rfl) (fun w1 hw h => run_ixP (by kernel_rfl) hb) ?_
    refine Good.run (by kernel_rfl) (stop := 1000) 1000 _ ?_
    refine Good.callv (fun w1 hw h => digit_m a) (by kernel_rfl) (fun u => ?_)
    refine Good.run (by kernel_rfl) (stop := 1000) 1000 _ ?_
    refine Good.callv (fun w1 hw h => digit_m b) (by kernel_rfl) (fun u => ?_)
    refine Good.run (by kernel_rfl) (stop := 0) 1000 _ ?_
    refine Good.run (by kernel_rfl) (stop := 1000) 1 _ ?_
    refine Good.run (by kernel_rfl) (stop := 2) 1000 _ ?_
    refine Good.run (by kernel_rfl) (stop := 1000) 1 _ ?_
    refine Good.run (by kernel_rfl) (stop := 2) 1000 _ ?_
    refine Good.slot 57 (.int .u8 (IntKind.u8.wrap (IntKind.i64.wrap (IntKind.i64.wrap (16 * valH a) + valH b)))) (.int .u8 (byteH a b).toNat) (by kernel_rfl) (by rw [hn]) ?_
    refine Good.make (litS 37 1 #[(0, .int .u8 (byteH a b).toNat)]) (litV 1) (litG 5 #[.int .u8 (byteH a b).toNat]) (by kernel_rfl) (fun w1 hw h => make_lit (by kernel_rfl)) (fun gb => ?_)
    refine Good.run (by kernel_rfl) (stop := 3) 1000 _ ?_
    refine Good.mutOp (L := bl y) (val := fun (z : Option Addr × Nat) => .slice z.1 (m + 1) z.2) (Φ' := fun (z : Option Addr × Nat) v => OwnR v w.heap.size 5 1 z.1 (m + 1) z.2 (bv (p ++ [byteH a b]))) (G := fun (z : Option Addr × Nat) v => OwnR v w.heap.size 5 1 z.1 (m + 1) z.2 (bv (p ++ [byteH a b]))) (appS 37 37 (.slice y m yc) (litV 1 gb)) (fun w1 hw h => by have ho : OwnR w1 w.heap.size 5 1 y m yc (bv p) := h.1.1.1.1.1; have ha := appendR_m (P := Tryd.prog) (s := 1) (z := .int .u8 0) (bytes := 1) (m := 1) (cc := 1) (t := 37) (elem := 5) (by kernel_rfl) (by kernel_rfl) rfl (by decide) ho hw.size (litG_reads (n := 1) h.2 rfl) (by intro v hv; simp at hv; rcases hv with rfl; rfl) (by omega) (by decide); have e : bv (p ++ [byteH a b]) = bv p ++ [.int .u8 (byteH a b).toNat] := by { simp [bv] }; rw [e]; exact ha) (fun w1 h => fun b hb => ⟨((show OwnR w1 w.heap.size 5 1 y m yc (bv p) from h.1.1.1.1.1).lt b hb).1, ((show OwnR w1 w.heap.size 5 1 y m yc (bv p) from h.1.1.1.1.1).blk b hb).2⟩) (fun z wa w1 e1 e2 h hG => hG) (by kernel_rfl) (by kernel_rfl) (fun z => ?_)
    refine Good.run (by kernel_rfl) (stop := 1000) 1000 _ ?_
    refine Good.slot 5 (.int .i64 (IntKind.i64.wrap (IntKind.i64.wrap ((k : Int) + 2) + 1))) (.int .i64 ((k + 3 : Nat) : Int)) (by kernel_rfl) (by rw [wrap_two (n := l.length) (by omega) (by omega), wrap_succ (n := l.length) (by omega) (by omega)]) ?_
    refine Good.next (⟨((k + 3, m + 1, p ++ [byteH a b]), z), by show k + 3 ≤ l.length; omega, hs, by simp [hk3], by show m + 1 ≤ k + 3; omega⟩) (by kernel_rfl) (by show l.length - (k + 3) < l.length - k; omega) ⟨by kernel_rfl, by kernel_rfl, by kernel_rfl⟩ (fun _ h => h)
  · have hd := ref_end hk2 (by omega)
    refine Good.run (by kernel_rfl) (stop := 1000) 1000 _ ?_
    refine Good.condr (decide ((k : Int) < (l.length : Int))) false (by kernel_rfl) (by simp; omega) ?_
    refine Good.run (by kernel_rfl) (stop := 1000) 1000 _ ?_
    refine Good.leave (by kernel_rfl) ?_
    refine Good.run (by kernel_rfl) (stop := 3) 1000 _ ?_
    by_cases hm : m = 0
    · obtain rfl : p = [] := List.length_eq_zero_iff.1 (by omega)
      obtain rfl : o = none := ho.symm.trans (refL_nil h0 hd (.inl rfl))
      refine Good.slot 62 (.bool ((m : Int) == 0)) (.bool true) (by kernel_rfl) (by simp [hm]) ?_
      refine Good.run (by kernel_rfl) (stop := 1000) 1000 _ ?_
      refine Good.cond true (by kernel_rfl) ?_
      refine Good.run (by kernel_rfl) (stop := 1000) 1000 _ ?_
      refine Good.ret (v := .tuple #[.string ⟨#[]⟩, .int .i64 3]) (by kernel_rfl) (fun w1 hw h => ⟨(), rfl, hw, fun _ _ _ => trivial⟩)
    have hp0 : p ≠ [] := by rintro rfl; exact hm hk3.symm
    refine Good.slot 62 (.bool ((m : Int) == 0)) (.bool false) (by kernel_rfl) (by simp [hm]) ?_
    refine Good.run (by kernel_rfl) (stop := 5) 1000 _ ?_
    refine Good.ask (cvS 37 9 (.slice y m yc)) (strOf p) (by kernel_rfl) (fun w1 hw h => by subst hk3; exact run_cv (e := 5) (by kernel_rfl) (by kernel_rfl) (by kernel_rfl) h) ?_
    refine Good.run (by kernel_rfl) (stop := 1000) 1000 _ ?_
    refine Good.callv (fun w1 hw h => rquote_m (l := p) (by omega)) (by kernel_rfl) (fun u => ?_)
    refine Good.run (by kernel_rfl) (stop := 8) 1000 _ ?_
    by_cases hq : quoL p = l
    · obtain rfl : o = some p := ho.symm.trans (refL_some h0 hd hp0 hq)
      refine Good.ask (opS .neq 9 (.tmp 66) (.tmp 67) (strOf (quoL p)) (strOf l)) (.bool false) (by kernel_rfl) (fun w1 hw h => run_neS (by simp [hq])) ?_
      refine Good.run (by kernel_rfl) (stop := 1000) 1000 _ ?_
      refine Good.cond false (by kernel_rfl) ?_
      refine Good.run (by kernel_rfl) (stop := 1) 1000 _ ?_
      refine Good.ask (cvS 37 9 (.slice y m yc)) (strOf p) (by kernel_rfl) (fun w1 hw h => by subst hk3; exact run_cv (e := 5) (by kernel_rfl) (by kernel_rfl) (by kernel_rfl) h.1) ?_
      refine Good.run (by kernel_rfl) (stop := 1000) 1000 _ ?_
      refine Good.ret (v := .tuple #[strOf p, .int .i64 0]) (by kernel_rfl) (fun w1 hw h => ⟨(), rfl, hw, fun _ _ _ => trivial⟩)
    · obtain rfl : o = none := ho.symm.trans (refL_nil h0 hd (.inr hq))
      refine Good.ask (opS .neq 9 (.tmp 66) (.tmp 67) (strOf (quoL p)) (strOf l)) (.bool true) (by kernel_rfl) (fun w1 hw h => run_neS (by simp [hq])) ?_
      refine Good.run (by kernel_rfl) (stop := 1000) 1000 _ ?_
      refine Good.cond true (by kernel_rfl) ?_
      refine Good.run (by kernel_rfl) (stop := 1000) 1000 _ ?_
      refine Good.ret (v := .tuple #[.string ⟨#[]⟩, .int .i64 3]) (by kernel_rfl) (fun w1 hw h => ⟨(), rfl, hw, fun _ _ _ => trivial⟩)
end

end Go.Proofs.YtgkiopplcpnajaaDoor
