/-
 Words and lines.
-/
import Derived.Test.YtncodmhgfkailaaGreatDoorVA
import Derived.Scope
namespace Go.Proofs.YtncodmhgfkailaaGreatDoor
set_option maxRecDepth 100000
set_option maxHeartbeats 8000000
set_option linter.unusedVariables false
set_option linter.unusedSimpArgs false
open Go.RowKit
section
variable {w : World} {l : List UInt8} {o : Option (List UInt8)}
theorem Qh {k n : Nat} (h : k + 2 ≤ n) (hn : n ≤ 1000000000) : IntKind.i64.wrap ((k : Int) + 2) = ((k + 2 : Nat) : Int) := by rw [IntWalk.i64_in _ Zo]; omega
theorem dig_num (c : UInt8) (h : 48 ≤ c.toNat ∧ c.toNat ≤ 57) : IntKind.i64.wrap (IntKind.u8.wrap (((c.toNat : Nat) : Int) - 48)) = L0 c := by
 have key : ∀ n : Fin 256, 48 ≤ n.val → n.val ≤ 57 → IntKind.i64.wrap (IntKind.u8.wrap (((n.val : Nat) : Int) - 48)) = L0 (UInt8.ofNat n.val) := by decide +kernel
 have := key ⟨c.toNat, by have := c.toNat_lt; omega⟩ h.1 h.2
 simpa only [UInt8.ofNat_toNat] using this
theorem dig_let (c : UInt8) (h : 97 ≤ c.toNat ∧ c.toNat ≤ 102) : IntKind.i64.wrap (IntKind.i64.wrap (IntKind.u8.wrap (((c.toNat : Nat) : Int) - 97)) + 10) = L0 c := by
 have key : ∀ n : Fin 256, 97 ≤ n.val → n.val ≤ 102 → IntKind.i64.wrap (IntKind.i64.wrap (IntKind.u8.wrap (((n.val : Nat) : Int) - 97)) + 10) = L0 (UInt8.ofNat n.val) := by decide +kernel
 have := key ⟨c.toNat, by have := c.toNat_lt; omega⟩ h.1 h.2
 simpa only [UInt8.ofNat_toNat] using this
theorem dig_no (c : UInt8) (h : ¬ (48 ≤ c.toNat ∧ c.toNat ≤ 57)) (h2 : ¬ (97 ≤ c.toNat ∧ c.toNat ≤ 102)) : L0 c = -1 := by
 unfold L0; rw [if_neg h2, if_neg h]
theorem digit5_m (c : UInt8) : Calls Tryz.prog 147 #[.int .u8 c.toNat] w (K5 w (fun _ : Unit => .int .i64 (L0 c)) fun _ _ => True) := by
 have hc : (48 ≤ c.toNat ∧ c.toNat ≤ 57) ∨ c.toNat < 48 ∨ (57 < c.toNat ∧ c.toNat < 97) ∨ (97 ≤ c.toNat ∧ c.toNat ≤ 102) ∨ 102 < c.toNat := by omega
 rcases hc with hc | hc | hc | hc | hc
 ·
  refine K0.enter Tryz.func147 rfl ?_
  refine ZS 2 ?_
  refine ZT 4 (.bool (decide ((((c.toNat : Nat)) : Int) ≥ 48))) (.bool true) (by rw [decide_eq_true Zo]) ?_
  refine ZJ (decide ((((c.toNat : Nat)) : Int) ≤ 57)) true Zp ?_
  exact ZX (.int .i64 (IntKind.i64.wrap (IntKind.u8.wrap (((c.toNat : Nat) : Int) - 48)))) (by rw [dig_num c hc])
 ·have e := dig_no c Zo Zo
  refine K0.enter Tryz.func147 rfl ?_
  refine ZS 2 ?_
  refine ZT 4 (.bool (decide ((((c.toNat : Nat)) : Int) ≥ 48))) (.bool false) (by rw [decide_eq_false Zo]) ?_
  refine K0.cond false Zk ?_
  refine ZS 2 ?_
  refine ZT 13 (.bool (decide ((((c.toNat : Nat)) : Int) ≥ 97))) (.bool false) (by rw [decide_eq_false Zo]) ?_
  refine ZI false ?_
  exact ZX (.int .i64 (-1)) (by rw [e])
 ·have e := dig_no c Zo Zo
  refine K0.enter Tryz.func147 rfl ?_
  refine ZS 2 ?_
  refine ZT 4 (.bool (decide ((((c.toNat : Nat)) : Int) ≥ 48))) (.bool true) (by rw [decide_eq_true Zo]) ?_
  refine K0.condr (decide ((((c.toNat : Nat)) : Int) ≤ 57)) false Zk Zp ?_
  refine ZS 2 ?_
  refine ZT 13 (.bool (decide ((((c.toNat : Nat)) : Int) ≥ 97))) (.bool false) (by rw [decide_eq_false Zo]) ?_
  refine ZI false ?_
  exact ZX (.int .i64 (-1)) (by rw [e])
 ·
  refine K0.enter Tryz.func147 rfl ?_
  refine ZS 2 ?_
  refine ZT 4 (.bool (decide ((((c.toNat : Nat)) : Int) ≥ 48))) (.bool true) (by rw [decide_eq_true Zo]) ?_
  refine K0.condr (decide ((((c.toNat : Nat)) : Int) ≤ 57)) false Zk Zp ?_
  refine ZS 2 ?_
  refine ZT 13 (.bool (decide ((((c.toNat : Nat)) : Int) ≥ 97))) (.bool true) (by rw [decide_eq_true Zo]) ?_
  refine ZJ (decide ((((c.toNat : Nat)) : Int) ≤ 102)) true Zp ?_
  exact ZX (.int .i64 (IntKind.i64.wrap (IntKind.i64.wrap (IntKind.u8.wrap (((c.toNat : Nat) : Int) - 97)) + 10))) (by rw [dig_let c hc])
 ·have e := dig_no c Zo Zo
  refine K0.enter Tryz.func147 rfl ?_
  refine ZS 2 ?_
  refine ZT 4 (.bool (decide ((((c.toNat : Nat)) : Int) ≥ 48))) (.bool true) (by rw [decide_eq_true Zo]) ?_
  refine K0.condr (decide ((((c.toNat : Nat)) : Int) ≤ 57)) false Zk Zp ?_
  refine ZS 2 ?_
  refine ZT 13 (.bool (decide ((((c.toNat : Nat)) : Int) ≥ 97))) (.bool true) (by rw [decide_eq_true Zo]) ?_
  refine ZJ (decide ((((c.toNat : Nat)) : Int) ≤ 102)) false Zp ?_
  exact ZX (.int .i64 (-1)) (by rw [e])
theorem unquote_m (ho : Qk l = o) (hl : l.length ≤ 90000000) : Calls Tryz.prog 137 #[K4 l] w (K5 w (fun _ : Unit => unqV o) fun _ _ => True) := by
 by_cases h0 : l = [42]
 ·obtain rfl : o = some [] := by rw [← ho, h0]; rfl
  refine K0.enter Tryz.func137 rfl ?_
  refine ZS 1 ?_
  refine K0.run Zk (stop := 1000) 1 _ ?_
  refine ZS 1 ?_
  refine ZA (Ov .eql 9 (.tmp 8) (.const (.string ⟨#[42]⟩)) (K4 l) (K4 [42])) (.bool true) (fun w1 hw h => L3 (by simpa using h0)) ?_
  refine ZI true ?_
  exact ZW (.tuple #[.string ⟨#[]⟩, .int .i64 0])
 refine K0.enter Tryz.func137 rfl ?_
 refine ZS 1 ?_
 refine K0.run Zk (stop := 1000) 1 _ ?_
 refine ZS 1 ?_
 refine ZA (Ov .eql 9 (.tmp 8) (.const (.string ⟨#[42]⟩)) (K4 l) (K4 [42])) (.bool false) (fun w1 hw h => L3 (by simpa using h0)) ?_
 refine ZI false ?_
 refine K0.loop (ι := {q : (Nat × Nat × List UInt8) × (Option Addr × Nat) // q.1.1 ≤ l.length ∧ unqS l = (unqS (l.drop q.1.1)).map (q.1.2.2 ++ ·) ∧ q.1.2.2.length = q.1.2.1 ∧ q.1.2.1 ≤ q.1.1}) 76 (fun q => ⟨[(0, .v (K4 l)), (4, .v (.slice q.1.2.1 q.1.1.2.1 q.1.2.2)), (5, .v (.int .i64 q.1.1.1))], []⟩) (fun q u => K6 u w.heap.size 5 1 q.1.2.1 q.1.1.2.1 q.1.2.2 (bv q.1.1.2.2)) (fun q => l.length - q.1.1.1) (⟨((0, 0, []), (none, 0)), by simp, by show unqS l = (unqS (l.drop 0)).map ([] ++ ·); rw [List.drop_zero]; cases unqS l <;> rfl, rfl, Nat.le_refl _⟩) Zk (fun _ => by kernel_rfl) ⟨Zk, Zk, Zk⟩ (fun u h => K6.nil_) ?_
 rintro ⟨⟨⟨k, m, p⟩, y, yc⟩, hk⟩ g
 have hk1 : k ≤ l.length := hk.1
 have hk2 : unqS l = (unqS (l.drop k)).map (p ++ ·) := hk.2.1
 have hk3 : p.length = m := hk.2.2.1
 have hk4 : m ≤ k := hk.2.2.2
 by_cases hlt : k < l.length
 ·
  refine ZR ?_
  refine K0.condr (decide ((k : Int) < (l.length : Int))) true Zk Zp ?_
  refine ZS 2 ?_
  obtain ⟨c, hc⟩ : ∃ c, l[k]? = some c := ⟨_, List.getElem?_eq_getElem hlt⟩
  refine ZA (ixS 9 (K4 l) k) (.int .u8 c.toNat) (fun w1 hw h => Lg Zk hc) ?_
  cases hp : L5 c
  case true =>
   have hs := unq_one hk2 hc hp
   refine ZC (fun w1 hw h => plain_v hp) fun u => ?_
   refine K0.cond true Zk ?_
   refine ZS 3 ?_
   refine K0.ask (ixS 9 (K4 l) k) (.int .u8 c.toNat) Zk (fun w1 hw h => Lg Zk hc) ?_
   refine ZS 4 ?_
   refine K0.make (Li 137 1 #[(0, .int .u8 c.toNat)]) (Ki 1) (L8 5 #[.int .u8 c.toNat]) Zk (fun w1 hw h => Kb Zk) (fun gb => ?_)
   refine ZS 5 ?_
   refine K0.mutOp (L := bl y) (val := fun (z : Option Addr × Nat) => .slice z.1 (m + 1) z.2) (Φ' := fun (z : Option Addr × Nat) v => K6 v w.heap.size 5 1 z.1 (m + 1) z.2 (bv (p ++ [c]))) (G := fun (z : Option Addr × Nat) v => K6 v w.heap.size 5 1 z.1 (m + 1) z.2 (bv (p ++ [c]))) (M2 137 137 (.slice y m yc) (Ki 1 gb)) (fun w1 hw h => by have ho : K6 w1 w.heap.size 5 1 y m yc (bv p) := h.1.1; have ha := Ms (P := Tryz.prog) (s := 1) (z := .int .u8 0) (bytes := 1) (m := 1) (cc := 1) (t := 137) (elem := 5) Zk Zk rfl Zd ho hw.size (M5 (n := 1) h.2 rfl) (by intro v hv; simp at hv; rcases hv with rfl; rfl) Zo Zd; have e : bv (p ++ [c]) = bv p ++ [.int .u8 (c).toNat] := by { simp [bv] }; rw [e]; exact ha) (fun w1 h => fun b hb => ⟨((show K6 w1 w.heap.size 5 1 y m yc (bv p) from h.1.1).lt b hb).1, ((show K6 w1 w.heap.size 5 1 y m yc (bv p) from h.1.1).blk b hb).2⟩) (fun z wa w1 e1 e2 h hG => hG) Zk Zk (fun z => ?_)
   refine ZR ?_
   refine K0.slot 5 (.int .i64 (IntKind.i64.wrap ((k : Int) + 1))) (.int .i64 ((k + 1 : Nat) : Int)) Zk (by rw [Kf hlt Zo]) ?_
   refine K0.next (⟨((k + 1, m + 1, p ++ [c]), z), by show k + 1 ≤ l.length; omega, hs, by simp [hk3], by show m + 1 ≤ k + 1; omega⟩) Zk (by show l.length - (k + 1) < l.length - k; omega) ⟨Zk, Zk, Zk⟩ (fun _ h => h)
  refine ZC (fun w1 hw h => plain_v hp) fun u => ?_
  refine K0.cond false Zk ?_
  refine ZS 2 ?_
  refine K0.ask (ixS 9 (K4 l) k) (.int .u8 c.toNat) Zk (fun w1 hw h => Lg Zk hc) ?_
  refine ZS 4 ?_
  by_cases h42 : c = 42
  case neg =>
   obtain rfl : o = none := ho.symm.trans (unqL_none h0 (unq_bad hk2 hc hp h42))
   refine ZT 29 (.bool (((c.toNat : Nat) : Int) != 42)) (.bool true) (by simp; intro e; exact h42 (UInt8.toNat_inj.1 (by have e2 : (42 : UInt8).toNat = 42 := rfl; omega))) ?_
   refine ZI true ?_
   refine K0.leave Zk ?_
   refine ZR ?_
   exact ZW (.tuple #[.string ⟨#[]⟩, .int .i64 3])
  subst h42
  refine ZT 29 (.bool ((((42 : UInt8).toNat : Nat) : Int) != 42)) (.bool false) Zs ?_
  by_cases hsh : l.length ≤ k + 2
  ·obtain rfl : o = none := ho.symm.trans (unqL_none h0 (unq_short hk2 hc hsh))
   refine ZJ (decide (IntKind.i64.wrap ((k : Int) + 2) ≥ (l.length : Int))) true (by rw [Qh (n := l.length + 1) Zo Zo]; simp; omega) ?_
   refine K0.leave Zk ?_
   refine ZR ?_
   exact ZW (.tuple #[.string ⟨#[]⟩, .int .i64 3])
  obtain ⟨a, ha⟩ : ∃ a, l[k + 1]? = some a := ⟨_, List.getElem?_eq_getElem Zo⟩
  obtain ⟨b, hb⟩ : ∃ b, l[k + 2]? = some b := ⟨_, List.getElem?_eq_getElem Zo⟩
  obtain ⟨d1, d2⟩ := unq_hex hk2 hc ha hb
  refine K0.condr (decide (IntKind.i64.wrap ((k : Int) + 2) ≥ (l.length : Int))) false Zk (by rw [Qh (n := l.length + 1) Zo Zo]; simp; omega) ?_
  refine ZS 3 ?_
  refine K0.slot 39 (.int .i64 (IntKind.i64.wrap ((k : Int) + 1))) (.int .i64 ((k + 1 : Nat) : Int)) Zk (by rw [Kf hlt Zo]) ?_
  refine K0.askAt 3 (ixS 9 (K4 l) (k + 1 : Nat)) (.int .u8 a.toNat) Zk (fun w1 hw h => Lg Zk ha) ?_
  refine ZS 8 ?_
  refine K0.slot 44 (.int .i64 (IntKind.i64.wrap ((k : Int) + 2))) (.int .i64 ((k + 2 : Nat) : Int)) Zk (by rw [Qh (n := l.length) Zo Zo]) ?_
  refine ZB 8 (ixS 9 (K4 l) (k + 2 : Nat)) (.int .u8 b.toNat) (fun w1 hw h => Lg Zk hb) ?_
  refine ZC (fun w1 hw h => hexi_m a) fun u => ?_
  refine ZD 0 (fun w1 hw h => hexi_m b) fun u => ?_
  refine K0.run Zk (stop := 1000) 2 _ ?_
  by_cases hva : L0 a < 0
  ·obtain rfl : o = none := ho.symm.trans (unqL_none h0 (d1 (.inl hva)))
   refine ZS 2 ?_
   refine ZT 48 (.bool (decide (L0 a < 0))) (.bool true) (by rw [decide_eq_true hva]) ?_
   refine ZI true ?_
   refine K0.leave Zk ?_
   refine ZR ?_
   exact ZW (.tuple #[.string ⟨#[]⟩, .int .i64 3])
  by_cases hvb : L0 b < 0
  ·obtain rfl : o = none := ho.symm.trans (unqL_none h0 (d1 (.inr (.inl hvb))))
   refine ZS 2 ?_
   refine K0.slot 48 (.bool (decide (L0 a < 0))) (.bool false) Zk (by rw [decide_eq_false hva]) ?_
   refine ZS 6 ?_
   refine ZT 52 (.bool (decide (L0 b < 0))) (.bool true) (by rw [decide_eq_true hvb]) ?_
   refine ZI true ?_
   refine K0.leave Zk ?_
   refine ZR ?_
   exact ZW (.tuple #[.string ⟨#[]⟩, .int .i64 3])
  have hn := byteH_nat a b Zo Zo
  refine ZS 2 ?_
  refine K0.slot 48 (.bool (decide (L0 a < 0))) (.bool false) Zk (by rw [decide_eq_false hva]) ?_
  refine ZS 6 ?_
  refine K0.slot 52 (.bool (decide (L0 b < 0))) (.bool false) Zk (by rw [decide_eq_false hvb]) ?_
  refine ZS 12 ?_
  refine K0.slot 58 (.int .u8 (IntKind.u8.wrap (bits .or .i64 (IntKind.i64.wrap (L0 a * 2 ^ 4)) (L0 b)))) (.int .u8 (Lf a b).toNat) Zk (by rw [hn]) ?_
  cases hpl : L5 (Lf a b)
  case true =>
   obtain rfl : o = none := ho.symm.trans (unqL_none h0 (d1 (.inr (.inr hpl))))
   refine ZC (fun w1 hw h => plain_v hpl) fun u => ?_
   refine ZI true ?_
   refine K0.leave Zk ?_
   refine ZR ?_
   exact ZW (.tuple #[.string ⟨#[]⟩, .int .i64 3])
  have hs := d2 (by rw [hpl]; simp; omega)
  refine ZC (fun w1 hw h => plain_v hpl) fun u => ?_
  refine K0.cond false Zk ?_
  refine ZS 6 ?_
  refine K0.slot 66 (.int .u8 (IntKind.u8.wrap (bits .or .i64 (IntKind.i64.wrap (L0 a * 2 ^ 4)) (L0 b)))) (.int .u8 (Lf a b).toNat) Zk (by rw [hn]) ?_
  refine K0.make (Li 137 1 #[(0, .int .u8 (Lf a b).toNat)]) (Ki 1) (L8 5 #[.int .u8 (Lf a b).toNat]) Zk (fun w1 hw h => Kb Zk) (fun gb => ?_)
  refine ZS 7 ?_
  refine K0.mutOp (L := bl y) (val := fun (z : Option Addr × Nat) => .slice z.1 (m + 1) z.2) (Φ' := fun (z : Option Addr × Nat) v => K6 v w.heap.size 5 1 z.1 (m + 1) z.2 (bv (p ++ [Lf a b]))) (G := fun (z : Option Addr × Nat) v => K6 v w.heap.size 5 1 z.1 (m + 1) z.2 (bv (p ++ [Lf a b]))) (M2 137 137 (.slice y m yc) (Ki 1 gb)) (fun w1 hw h => by have ho : K6 w1 w.heap.size 5 1 y m yc (bv p) := h.1.1.1.1.1; have ha := Ms (P := Tryz.prog) (s := 1) (z := .int .u8 0) (bytes := 1) (m := 1) (cc := 1) (t := 137) (elem := 5) Zk Zk rfl Zd ho hw.size (M5 (n := 1) h.2 rfl) (by intro v hv; simp at hv; rcases hv with rfl; rfl) Zo Zd; have e : bv (p ++ [Lf a b]) = bv p ++ [.int .u8 (Lf a b).toNat] := by { simp [bv] }; rw [e]; exact ha) (fun w1 h => fun b hb => ⟨((show K6 w1 w.heap.size 5 1 y m yc (bv p) from h.1.1.1.1.1).lt b hb).1, ((show K6 w1 w.heap.size 5 1 y m yc (bv p) from h.1.1.1.1.1).blk b hb).2⟩) (fun z wa w1 e1 e2 h hG => hG) Zk Zk (fun z => ?_)
  refine ZR ?_
  refine K0.slot 5 (.int .i64 (IntKind.i64.wrap (IntKind.i64.wrap ((k : Int) + 2) + 1))) (.int .i64 ((k + 3 : Nat) : Int)) Zk (by rw [Qh (n := l.length) Zo Zo, Kf (n := l.length) Zo Zo]) ?_
  refine K0.next (⟨((k + 3, m + 1, p ++ [Lf a b]), z), by show k + 3 ≤ l.length; omega, hs, by simp [hk3], by show m + 1 ≤ k + 3; omega⟩) Zk (by show l.length - (k + 3) < l.length - k; omega) ⟨Zk, Zk, Zk⟩ (fun _ h => h)
 ·have hd := unq_end hk2 Zo
  refine ZR ?_
  refine ZJ (decide ((k : Int) < (l.length : Int))) false Zp ?_
  refine K0.leave Zk ?_
  refine ZR ?_
  by_cases hm : m = 0
  ·obtain rfl : p = [] := List.length_eq_zero_iff.1 Zo
   obtain rfl : o = none := ho.symm.trans (unqL_nil h0 hd)
   refine ZJ (((m : Int) == 0)) true (by simp [hm]) ?_
   exact ZW (.tuple #[.string ⟨#[]⟩, .int .i64 3])
  ·obtain rfl : o = some p := ho.symm.trans (unqL_some h0 hd (by rintro rfl; exact hm hk3.symm))
   refine K0.condr (((m : Int) == 0)) false Zk (by simp [hm]) ?_
   refine ZS 1 ?_
   refine ZA (cvS 137 9 (.slice y m yc)) (K4 p) (fun w1 hw h => by subst hk3; exact run_cv (e := 5) Zk Zk Zk h) ?_
   exact ZW (.tuple #[K4 p, .int .i64 0])
theorem runquote_m (ho : Qk l = o) (hl : l.length ≤ 10000) : Calls Tryz.prog 73 #[K4 l] w (K5 w (fun _ : Unit => unqV o) fun _ _ => True) := by
 by_cases h0 : l = [42]
 ·obtain rfl : o = some [] := by rw [← ho, h0]; rfl
  refine K0.enter Tryz.func73 rfl ?_
  refine ZS 1 ?_
  refine K0.run Zk (stop := 1000) 1 _ ?_
  refine ZS 1 ?_
  refine ZA (Ov .eql 9 (.tmp 7) (.const (.string ⟨#[42]⟩)) (K4 l) (K4 [42])) (.bool true) (fun w1 hw h => L3 (by simpa using h0)) ?_
  refine ZI true ?_
  exact ZW (.tuple #[.string ⟨#[]⟩, .int .i64 0])
 refine K0.enter Tryz.func73 rfl ?_
 refine ZS 1 ?_
 refine K0.run Zk (stop := 1000) 1 _ ?_
 refine ZS 1 ?_
 refine ZA (Ov .eql 9 (.tmp 7) (.const (.string ⟨#[42]⟩)) (K4 l) (K4 [42])) (.bool false) (fun w1 hw h => L3 (by simpa using h0)) ?_
 refine ZI false ?_
 refine K0.loop (ι := {q : (Nat × Nat × List UInt8) × (Option Addr × Nat) // q.1.1 ≤ l.length ∧ refS l = (refS (l.drop q.1.1)).map (q.1.2.2 ++ ·) ∧ q.1.2.2.length = q.1.2.1 ∧ q.1.2.1 ≤ q.1.1}) 72 (fun q => ⟨[(0, .v (K4 l)), (4, .v (.slice q.1.2.1 q.1.1.2.1 q.1.2.2)), (5, .v (.int .i64 q.1.1.1))], []⟩) (fun q u => K6 u w.heap.size 5 1 q.1.2.1 q.1.1.2.1 q.1.2.2 (bv q.1.1.2.2)) (fun q => l.length - q.1.1.1) (⟨((0, 0, []), (none, 0)), by simp, by show refS l = (refS (l.drop 0)).map ([] ++ ·); rw [List.drop_zero]; cases refS l <;> rfl, rfl, Nat.le_refl _⟩) Zk (fun _ => by kernel_rfl) ⟨Zk, Zk, Zk⟩ (fun u h => K6.nil_) ?_
 rintro ⟨⟨⟨k, m, p⟩, y, yc⟩, hk⟩ g
 have hk1 : k ≤ l.length := hk.1
 have hk2 : refS l = (refS (l.drop k)).map (p ++ ·) := hk.2.1
 have hk3 : p.length = m := hk.2.2.1
 have hk4 : m ≤ k := hk.2.2.2
 by_cases hlt : k < l.length
 ·
  refine ZR ?_
  refine K0.condr (decide ((k : Int) < (l.length : Int))) true Zk Zp ?_
  refine ZS 2 ?_
  obtain ⟨c, hc⟩ : ∃ c, l[k]? = some c := ⟨_, List.getElem?_eq_getElem hlt⟩
  refine ZA (ixS 9 (K4 l) k) (.int .u8 c.toNat) (fun w1 hw h => Lg Zk hc) ?_
  by_cases h42 : c = 42
  case neg =>
   have hs := ref_one hk2 hc h42
   refine K0.condr (((((c.toNat : Nat) : Int)) == 42)) false Zk (by simp; intro e; exact h42 (UInt8.toNat_inj.1 (by have e2 : (42 : UInt8).toNat = 42 := rfl; omega))) ?_
   refine ZS 2 ?_
   refine K0.make (Li 137 1 #[(0, .int .u8 c.toNat)]) (Ki 1) (L8 5 #[.int .u8 c.toNat]) Zk (fun w1 hw h => Kb Zk) (fun gb => ?_)
   refine ZS 3 ?_
   refine K0.mutOp (L := bl y) (val := fun (z : Option Addr × Nat) => .slice z.1 (m + 1) z.2) (Φ' := fun (z : Option Addr × Nat) v => K6 v w.heap.size 5 1 z.1 (m + 1) z.2 (bv (p ++ [c]))) (G := fun (z : Option Addr × Nat) v => K6 v w.heap.size 5 1 z.1 (m + 1) z.2 (bv (p ++ [c]))) (M2 137 137 (.slice y m yc) (Ki 1 gb)) (fun w1 hw h => by have ho : K6 w1 w.heap.size 5 1 y m yc (bv p) := h.1; have ha := Ms (P := Tryz.prog) (s := 1) (z := .int .u8 0) (bytes := 1) (m := 1) (cc := 1) (t := 137) (elem := 5) Zk Zk rfl Zd ho hw.size (M5 (n := 1) h.2 rfl) (by intro v hv; simp at hv; rcases hv with rfl; rfl) Zo Zd; have e : bv (p ++ [c]) = bv p ++ [.int .u8 (c).toNat] := by { simp [bv] }; rw [e]; exact ha) (fun w1 h => fun b hb => ⟨((show K6 w1 w.heap.size 5 1 y m yc (bv p) from h.1).lt b hb).1, ((show K6 w1 w.heap.size 5 1 y m yc (bv p) from h.1).blk b hb).2⟩) (fun z wa w1 e1 e2 h hG => hG) Zk Zk (fun z => ?_)
   refine ZR ?_
   refine K0.slot 5 (.int .i64 (IntKind.i64.wrap ((k : Int) + 1))) (.int .i64 ((k + 1 : Nat) : Int)) Zk (by rw [Kf hlt Zo]) ?_
   refine K0.next (⟨((k + 1, m + 1, p ++ [c]), z), by show k + 1 ≤ l.length; omega, hs, by simp [hk3], by show m + 1 ≤ k + 1; omega⟩) Zk (by show l.length - (k + 1) < l.length - k; omega) ⟨Zk, Zk, Zk⟩ (fun _ h => h)
  subst h42
  refine K0.condr ((((((42 : UInt8).toNat : Nat) : Int)) == 42)) true Zk Zs ?_
  refine ZS 5 ?_
  by_cases hsh : l.length ≤ k + 2
  ·obtain rfl : o = none := ho.symm.trans (refL_none h0 (ref_short hk2 hc hsh))
   refine ZT 24 (.bool (decide (IntKind.i64.wrap ((k : Int) + 2) ≥ (l.length : Int)))) (.bool true) (by rw [decide_eq_true]; rw [Qh (n := l.length + 1) Zo Zo]; omega) ?_
   refine ZI true ?_
   refine K0.leave Zk ?_
   refine ZR ?_
   exact ZW (.tuple #[.string ⟨#[]⟩, .int .i64 3])
  obtain ⟨a, ha⟩ : ∃ a, l[k + 1]? = some a := ⟨_, List.getElem?_eq_getElem Zo⟩
  obtain ⟨b, hb⟩ : ∃ b, l[k + 2]? = some b := ⟨_, List.getElem?_eq_getElem Zo⟩
  obtain ⟨d1, d2⟩ := ref_hex hk2 hc ha hb
  refine K0.slot 24 (.bool (decide (IntKind.i64.wrap ((k : Int) + 2) ≥ (l.length : Int)))) (.bool false) Zk (by rw [decide_eq_false]; rw [Qh (n := l.length + 1) Zo Zo]; omega) ?_
  refine ZS 9 ?_
  refine K0.slot 28 (.int .i64 (IntKind.i64.wrap ((k : Int) + 1))) (.int .i64 ((k + 1 : Nat) : Int)) Zk (by rw [Kf hlt Zo]) ?_
  refine ZA (ixS 9 (K4 l) (k + 1 : Nat)) (.int .u8 a.toNat) (fun w1 hw h => Lg Zk ha) ?_
  refine ZD 13 (fun w1 hw h => digit5_m a) fun u => ?_
  by_cases hva : L0 a < 0
  ·obtain rfl : o = none := ho.symm.trans (refL_none h0 (d1 (.inl hva)))
   refine ZT 32 (.bool (decide (L0 a < 0))) (.bool true) (by rw [decide_eq_true hva]) ?_
   refine ZI true ?_
   refine K0.leave Zk ?_
   refine ZR ?_
   exact ZW (.tuple #[.string ⟨#[]⟩, .int .i64 3])
  refine K0.slot 32 (.bool (decide (L0 a < 0))) (.bool false) Zk (by rw [decide_eq_false hva]) ?_
  refine ZS 17 ?_
  refine K0.slot 36 (.int .i64 (IntKind.i64.wrap ((k : Int) + 2))) (.int .i64 ((k + 2 : Nat) : Int)) Zk (by rw [Qh (n := l.length) Zo Zo]) ?_
  refine ZA (ixS 9 (K4 l) (k + 2 : Nat)) (.int .u8 b.toNat) (fun w1 hw h => Lg Zk hb) ?_
  refine ZC (fun w1 hw h => digit5_m b) fun u => ?_
  by_cases hvb : L0 b < 0
  ·obtain rfl : o = none := ho.symm.trans (refL_none h0 (d1 (.inr hvb)))
   refine ZJ (decide (L0 b < 0)) true (decide_eq_true hvb) ?_
   refine K0.leave Zk ?_
   refine ZR ?_
   exact ZW (.tuple #[.string ⟨#[]⟩, .int .i64 3])
  have hn := byteH_sum a b Zo Zo
  have hs := d2 Zp
  refine K0.condr (decide (L0 b < 0)) false Zk (decide_eq_false hvb) ?_
  refine ZS 3 ?_
  refine K0.slot 43 (.int .i64 (IntKind.i64.wrap ((k : Int) + 1))) (.int .i64 ((k + 1 : Nat) : Int)) Zk (by rw [Kf hlt Zo]) ?_
  refine K0.askAt 3 (ixS 9 (K4 l) (k + 1 : Nat)) (.int .u8 a.toNat) Zk (fun w1 hw h => Lg Zk ha) ?_
  refine ZS 9 ?_
  refine K0.slot 49 (.int .i64 (IntKind.i64.wrap ((k : Int) + 2))) (.int .i64 ((k + 2 : Nat) : Int)) Zk (by rw [Qh (n := l.length) Zo Zo]) ?_
  refine ZB 9 (ixS 9 (K4 l) (k + 2 : Nat)) (.int .u8 b.toNat) (fun w1 hw h => Lg Zk hb) ?_
  refine ZC (fun w1 hw h => digit5_m a) fun u => ?_
  refine ZD 0 (fun w1 hw h => digit5_m b) fun u => ?_
  refine K0.run Zk (stop := 1000) 1 _ ?_
  refine ZS 2 ?_
  refine K0.run Zk (stop := 1000) 1 _ ?_
  refine ZS 2 ?_
  refine K0.slot 57 (.int .u8 (IntKind.u8.wrap (IntKind.i64.wrap (IntKind.i64.wrap (16 * L0 a) + L0 b)))) (.int .u8 (Lf a b).toNat) Zk (by rw [hn]) ?_
  refine K0.make (Li 137 1 #[(0, .int .u8 (Lf a b).toNat)]) (Ki 1) (L8 5 #[.int .u8 (Lf a b).toNat]) Zk (fun w1 hw h => Kb Zk) (fun gb => ?_)
  refine ZS 3 ?_
  refine K0.mutOp (L := bl y) (val := fun (z : Option Addr × Nat) => .slice z.1 (m + 1) z.2) (Φ' := fun (z : Option Addr × Nat) v => K6 v w.heap.size 5 1 z.1 (m + 1) z.2 (bv (p ++ [Lf a b]))) (G := fun (z : Option Addr × Nat) v => K6 v w.heap.size 5 1 z.1 (m + 1) z.2 (bv (p ++ [Lf a b]))) (M2 137 137 (.slice y m yc) (Ki 1 gb)) (fun w1 hw h => by have ho : K6 w1 w.heap.size 5 1 y m yc (bv p) := h.1.1.1.1.1; have ha := Ms (P := Tryz.prog) (s := 1) (z := .int .u8 0) (bytes := 1) (m := 1) (cc := 1) (t := 137) (elem := 5) Zk Zk rfl Zd ho hw.size (M5 (n := 1) h.2 rfl) (by intro v hv; simp at hv; rcases hv with rfl; rfl) Zo Zd; have e : bv (p ++ [Lf a b]) = bv p ++ [.int .u8 (Lf a b).toNat] := by { simp [bv] }; rw [e]; exact ha) (fun w1 h => fun b hb => ⟨((show K6 w1 w.heap.size 5 1 y m yc (bv p) from h.1.1.1.1.1).lt b hb).1, ((show K6 w1 w.heap.size 5 1 y m yc (bv p) from h.1.1.1.1.1).blk b hb).2⟩) (fun z wa w1 e1 e2 h hG => hG) Zk Zk (fun z => ?_)
  refine ZR ?_
  refine K0.slot 5 (.int .i64 (IntKind.i64.wrap (IntKind.i64.wrap ((k : Int) + 2) + 1))) (.int .i64 ((k + 3 : Nat) : Int)) Zk (by rw [Qh (n := l.length) Zo Zo, Kf (n := l.length) Zo Zo]) ?_
  refine K0.next (⟨((k + 3, m + 1, p ++ [Lf a b]), z), by show k + 3 ≤ l.length; omega, hs, by simp [hk3], by show m + 1 ≤ k + 3; omega⟩) Zk (by show l.length - (k + 3) < l.length - k; omega) ⟨Zk, Zk, Zk⟩ (fun _ h => h)
 ·have hd := ref_end hk2 Zo
  refine ZR ?_
  refine ZJ (decide ((k : Int) < (l.length : Int))) false Zp ?_
  refine K0.leave Zk ?_
  refine ZS 3 ?_
  by_cases hm : m = 0
  ·obtain rfl : p = [] := List.length_eq_zero_iff.1 Zo
   obtain rfl : o = none := ho.symm.trans (refL_nil h0 hd (.inl rfl))
   refine ZT 62 (.bool ((m : Int) == 0)) (.bool true) (by simp [hm]) ?_
   refine ZI true ?_
   exact ZW (.tuple #[.string ⟨#[]⟩, .int .i64 3])
  have hp0 : p ≠ [] := by rintro rfl; exact hm hk3.symm
  refine K0.slot 62 (.bool ((m : Int) == 0)) (.bool false) Zk (by simp [hm]) ?_
  refine ZS 5 ?_
  refine ZA (cvS 137 9 (.slice y m yc)) (K4 p) (fun w1 hw h => by subst hk3; exact run_cv (e := 5) Zk Zk Zk h) ?_
  refine ZD 8 (fun w1 hw h => rquote_m (l := p) Zo) fun u => ?_
  by_cases hq : M8 p = l
  ·obtain rfl : o = some p := ho.symm.trans (refL_some h0 hd hp0 hq)
   refine ZA (Ov .neq 9 (.tmp 66) (.tmp 67) (K4 (M8 p)) (K4 l)) (.bool false) (fun w1 hw h => run_neS (by simp [hq])) ?_
   refine K0.cond false Zk ?_
   refine ZS 1 ?_
   refine ZA (cvS 137 9 (.slice y m yc)) (K4 p) (fun w1 hw h => by subst hk3; exact run_cv (e := 5) Zk Zk Zk h.1) ?_
   exact ZW (.tuple #[K4 p, .int .i64 0])
  ·obtain rfl : o = none := ho.symm.trans (refL_nil h0 hd (.inr hq))
   refine ZA (Ov .neq 9 (.tmp 66) (.tmp 67) (K4 (M8 p)) (K4 l)) (.bool true) (fun w1 hw h => run_neS (by simp [hq])) ?_
   refine ZI true ?_
   exact ZW (.tuple #[.string ⟨#[]⟩, .int .i64 3])
end
def cutC (c : UInt8) : List UInt8 → List UInt8 × List UInt8 × Bool
 | [] => ([], [], false)
 | b :: l => if b = c then ([], l, true) else (b :: (cutC c l).1, (cutC c l).2.1, (cutC c l).2.2)
theorem lib_cutC (c : UInt8) : ∀ (l : List UInt8), Lib.cut l [c] = cutC c l
 | [] => rfl
 | b :: l => by
  have ih := lib_cutC c l
  have hge := Lib.index_ge l [c]
  unfold Lib.cut at ih ⊢
  unfold cutC
  rw [Lib.index]
  by_cases hb : b = c
  ·subst hb
   simp
  ·have hp : [c].isPrefixOf (b :: l) = false := by
    simp only [List.isPrefixOf, Bool.and_true]
    exact beq_eq_false_iff_ne.2 (Ne.symm hb)
   rw [hp, if_neg hb, ← ih]
   by_cases h1 : Lib.index l [c] = -1
   ·rw [h1]; rfl
   ·obtain ⟨k, hk⟩ : ∃ k : Nat, Lib.index l [c] = k := ⟨(Lib.index l [c]).toNat, by omega⟩
    rw [hk]
    have e1 : ((k : Int) == -1) = false := beq_eq_false_iff_ne.2 Zo
    rw [e1]
    have e2 : ((k : Int) + 1).toNat = k + 1 := by omega
    have e3 : ((k : Int)).toNat = k := by omega
    simp only [Bool.false_eq_true, if_false, if_pos (show (0 : Int) ≤ (k : Int) + 1 by omega), if_pos (show (0 : Int) ≤ (k : Int) by omega), e2, e3, List.take_succ_cons, List.length_singleton, List.drop_succ_cons]
theorem cut_yes (c : UInt8) : ∀ {l : List UInt8}, (cutC c l).2.2 = true → Kc c l = (cutC c l).1 :: Kc c (cutC c l).2.1 ∧ (cutC c l).1.length + (cutC c l).2.1.length + 1 = l.length
 | [], h => by cases h
 | b :: l, h => by
  unfold cutC at h ⊢
  by_cases hb : b = c
  ·subst hb
   simp only [if_true]
   exact ⟨splitBy_eq, by simp⟩
  ·simp only [if_neg hb] at h ⊢
   have ih := cut_yes c (l := l) h
   refine ⟨?_, by have := ih.2; simp only [List.length_cons]; omega⟩
   rw [Kc, if_neg hb, ih.1]
theorem cut_not (c : UInt8) : ∀ {l : List UInt8}, (cutC c l).2.2 = false → Kc c l = [l] ∧ (cutC c l).1 = l
 | [], _ => ⟨rfl, rfl⟩
 | b :: l, h => by
  unfold cutC at h ⊢
  by_cases hb : b = c
  ·subst hb
   simp only [if_true] at h
   cases h
  ·simp only [if_neg hb] at h ⊢
   have ih := cut_not c (l := l) h
   rw [Kc, if_neg hb, ih.1, ih.2]
   exact ⟨rfl, rfl⟩
theorem lib_split (c : UInt8) : ∀ (n : Nat) (l : List UInt8), l.length ≤ n → Lib.splitK [c] 0 (Lib.count l [c]) l = Kc c l
 | n, l, hn => by
  have hc := lib_cutC c l
  have hge := Lib.index_ge l [c]
  unfold Lib.cut at hc
  by_cases h1 : Lib.index l [c] = -1
  ·rw [if_neg Zo] at hc
   rw [Lib.count_miss h1, (cut_not c (l := l) (by rw [← hc])).1]
   rfl
  ·obtain ⟨k, hk⟩ : ∃ k : Nat, Lib.index l [c] = k := ⟨(Lib.index l [c]).toNat, by omega⟩
   rw [if_pos Zo, hk] at hc
   obtain ⟨h2, h3⟩ := cut_yes c (l := l) (by rw [← hc])
   rw [← hc] at h2 h3
   simp only [Int.toNat_natCast, List.length_singleton] at h2 h3
   have hcount := Lib.count_hit (sub := [c]) (s := l) (i := k) Zs hk
   match n, hn with
   | 0, hn => omega
   | n + 1, hn =>
    rw [hcount, Nat.add_comm, Lib.splitK, if_neg (by rw [hk]; simp), h2, hk]
    simp only [Int.toNat_natCast, Nat.add_zero, List.length_singleton] at h3 ⊢
    rw [lib_split c n (l.drop (k + 1)) Zo]
theorem lib_join (c : UInt8) (l : List (List UInt8)) : Lib.join l [c] = N5 c l := by
 cases l with
 | nil => rfl
 | cons x l =>
  rw [Lib.join_cons]
  induction l generalizing x with
  | nil => simp [Lib.joinTail, N5]
  | cons y l ih =>
   show _ = x ++ c :: N5 c (y :: l)
   rw [← ih y]
   simp [Lib.joinTail]
theorem join_snoc (c : UInt8) : ∀ (l : List (List UInt8)) (x : List UInt8), N5 c (l ++ [x]) = if l = [] then x else N5 c l ++ c :: x
 | [], x => rfl
 | [y], x => rfl
 | y :: z :: l, x => by
  have ih := join_snoc c (z :: l) x
  rw [if_neg Zs] at ih ⊢
  show y ++ c :: N5 c ((z :: l) ++ [x]) = (y ++ c :: N5 c (z :: l)) ++ c :: x
  rw [ih]; simp
def Ok : List (List UInt8) → Nat
 | [] => 0
 | x :: l => x.length + Ok l
theorem join_len (c : UInt8) : ∀ l : List (List UInt8), (N5 c l).length ≤ Ok l + l.length
 | [] => Nat.zero_le _
 | [x] => by simp [N5, Ok]
 | x :: y :: l => by
  have ih := join_len c (y :: l)
  show (x ++ c :: N5 c (y :: l)).length ≤ x.length + Ok (y :: l) + _
  simp only [List.length_append, List.length_cons] at ih ⊢
  omega
theorem sum_quo : ∀ l : List (List UInt8), Ok (l.map M8) ≤ 3 * Ok l + l.length
 | [] => Nat.zero_le _
 | x :: l => by
  have ih := sum_quo l
  have := (quo_len x).2
  simp only [List.map_cons, Ok, List.length_cons]
  omega
theorem joinF_len (l : List (List UInt8)) : (M4 l).length ≤ 3 * Ok l + 2 * l.length := by
 have h1 := join_len 32 (l.map M8)
 have h2 := sum_quo l
 unfold M4
 rw [List.length_map] at h1
 omega
theorem joinN_len : ∀ l : List (List UInt8), (joinN l).length = Ok l + l.length
 | [] => rfl
 | x :: l => by
  have ih := joinN_len l
  rw [joinN_cons]
  simp only [List.length_append, List.length_cons, Ok]
  omega
theorem sum_take : ∀ (l : List (List UInt8)) (k : Nat), Ok (l.take k) ≤ Ok l
 | [], k => by simp
 | x :: l, 0 => by simp [Ok]
 | x :: l, k + 1 => by
  have ih := sum_take l k
  simp only [List.take_succ_cons, Ok]; omega
theorem mem_sum : ∀ {l : List (List UInt8)} {x : List UInt8}, x ∈ l → x.length ≤ Ok l
 | y :: l, x, h => by
  simp only [Ok]
  rcases List.mem_cons.1 h with rfl | h
  ·omega
  ·have := mem_sum h; omega
theorem joinF_take (l : List (List UInt8)) (k : Nat) : (M4 (l.take k)).length ≤ 3 * Ok l + 2 * l.length := by
 have h1 := joinF_len (l.take k)
 have h2 := sum_take l k
 have h3 := List.length_take_le k l
 have h4 : (l.take k).length ≤ l.length := by rw [List.length_take]; omega
 omega
theorem joinN_take (l : List (List UInt8)) (k : Nat) : (joinN (l.take k)).length ≤ Ok l + l.length := by
 have h1 := joinN_len (l.take k)
 have h2 := sum_take l k
 have h4 : (l.take k).length ≤ l.length := by rw [List.length_take]; omega
 omega
theorem take_snoc {l : List (List UInt8)} {k : Nat} {x : List UInt8} (h : l[k]? = some x) : l.take (k + 1) = l.take k ++ [x] := by rw [List.take_add_one, h]; rfl
theorem joinN_snoc (l : List (List UInt8)) (x : List UInt8) : joinN (l ++ [x]) = joinN l ++ (x ++ [10]) := by simp [joinN]
def sv (l : List (List UInt8)) : List Value := l.map K4
def L6 (w : World) (A : Option Addr) (n : Nat) (ls : List (List UInt8)) : Prop := ls.length = n ∧ ∀ (k : Nat) (s : List UInt8), ls[k]? = some s → ∃ ad, A = some ad ∧ w.cell? (ad.add k) = some (K4 s)
theorem L6.below {w w1 : World} {A : Option Addr} {n : Nat} {ls : List (List UInt8)} (h : L6 w A n ls) (hw : Below w.heap.size w w1) : L6 w1 A n ls :=
 ⟨h.1, fun k s hk => by obtain ⟨ad, h1, h2⟩ := h.2 k s hk; exact ⟨ad, h1, Mw hw h2⟩⟩
theorem K6.strs {w : World} {A : Option Addr} {B n c : Nat} {e : TypeId} {ls : List (List UInt8)} (h : K6 w B e 1 A n c (sv ls)) : L6 w A n ls := by
 have hl : ls.length = n := by have := h.len; simpa [sv] using this
 refine ⟨hl, fun k s hk => ?_⟩
 have hj := (List.getElem?_eq_some_iff.1 hk).1
 obtain ⟨g, hg, hc⟩ := h.cells Zo
 have := hc k (K4 s) (by simp [sv, hk])
 exact ⟨_, hg, by rw [Addr.add_mid, Nat.zero_add]; exact this⟩
section
variable {w : World} {A y : Option Addr} {n c m yc : Nat} {ls p : List (List UInt8)} {l : List UInt8} {o : Option (List UInt8)}
theorem Qz {B : Nat} {gb : Nat} {s : List UInt8} (ho : K6 w B 9 1 y m yc (sv p)) (hB : B ≤ w.heap.size) (hg : L8 9 #[K4 s] gb w) (hm : m < 100000000) :
 Q8 Tryz.prog w (bl y) (fun z : Option Addr × Nat => .slice z.1 (m + 1) z.2) (fun z v => K6 v B 9 1 z.1 (m + 1) z.2 (sv (p ++ [s]))) (M2 64 64 (.slice y m yc) (Ki 1 gb)) := by
 have ha := Ms (P := Tryz.prog) (s := 1) (z := .string ⟨#[]⟩) (bytes := 16) (m := 1) (cc := 1) (t := 64) (elem := 9) Zk Zk rfl Zd ho hB (M5 (n := 1) hg rfl) (by intro v hv; simp at hv; rcases hv with rfl; rfl) Zo Zd
 have e : sv (p ++ [s]) = sv p ++ [K4 s] := by simp [sv]
 rw [e]; exact ha
theorem own_cap {B : Nat} {e : TypeId} {xs : List Value} (h : K6 w B e 1 y n c xs) : n ≤ c ∧ (0 < n → ∃ g, y = some ⟨g, 0, none⟩ ∧ g < w.heap.size) := by
 rcases h.2 with ⟨h1, h2⟩ | ⟨g, cap, cur, h1, hB, hh, hn, rest⟩
 ·cases h1; exact ⟨Nat.le_refl _, fun h => by omega⟩
 ·cases h1; exact ⟨by first | exact hn | omega | exact rest.1, fun _ => ⟨g, rfl, (Array.getElem?_eq_some_iff.1 hh).1⟩⟩
theorem join_m {B : Nat} (h : K6 w B 9 1 y n yc (sv p)) (hl : (N5 32 p).length ≤ 100000000) (hn : n ≤ 100000000) : Calls Tryz.prog 51 #[.slice y n yc, .string ⟨#[32]⟩] w (K5 w (fun _ : Unit => K4 (N5 32 p)) fun _ _ => True) := by
 have hs := h.strs
 have hpn := hs.1
 obtain ⟨h1, h2⟩ := own_cap h
 by_cases h0 : n = 0
 ·subst h0
  obtain rfl : p = [] := List.length_eq_zero_iff.1 hpn
  refine (Tryz.strings_Join_none y yc ⟨#[32]⟩ w).mono fun e w' he => ⟨(), he.1, by rw [he.2]; exact Below.refl _ _, fun _ _ _ => trivial⟩
 ·obtain ⟨g, rfl, hg⟩ := h2 Zo
  have hmap : (p.map fun s => (⟨s.toArray⟩ : ByteArray)).map (fun b => b.data.toList) = p := by simp [Function.comp_def]
  have := Tryz.strings_Join g 0 yc (p.map fun s => ⟨s.toArray⟩) ⟨#[32]⟩ w (fun j x hj => by
   rw [List.getElem?_map] at hj
   obtain ⟨s, h3, rfl⟩ := Option.map_eq_some_iff.1 hj
   obtain ⟨ad, h4, h5⟩ := hs.2 j s h3
   injection h4 with h4
   rw [← h4, Addr.add_mid] at h5
   exact h5) hg Zp Zp (by rw [hmap]; show (Lib.join p [32]).length ≤ _; rw [lib_join]; omega)
  rw [hmap, List.length_map, hpn] at this
  refine this.mono fun e w' he => ⟨(), ?_, he.2, fun _ _ _ => trivial⟩
  rw [he.1]
  show Ending.returned (K4 (Lib.join p [32])) = _
  rw [lib_join]
theorem cut5_m (c : UInt8) (hM : ML w) (hl : l.length ≤ 100000000) : Calls Tryz.prog 136 #[K4 l, .string ⟨#[c]⟩] w (K5 w (fun _ : Unit => .tuple #[K4 (cutC c l).1, K4 (cutC c l).2.1, .bool (cutC c l).2.2]) fun _ _ => True) := by
 obtain ⟨m, hm⟩ := hM
 refine (Tryz.strings_Cut ⟨l.toArray⟩ ⟨#[c]⟩ m w (show l.length < _ by omega) hm).mono fun e w' h => ?_
 obtain ⟨he, n, hw⟩ := h
 refine ⟨(), ?_, by rw [hw]; exact Lp (Below.refl _ _) n, fun _ _ _ => trivial⟩
 have hc := lib_cutC c l
 rw [he]
 show Ending.returned (Value.tuple #[K4 (Lib.cut l [c]).1, K4 (Lib.cut l [c]).2.1, .bool (Lib.cut l [c]).2.2]) = _
 rw [hc]
theorem suf_m (hl : l.length ≤ 100000000) : Calls Tryz.prog 84 #[K4 l, .string ⟨#[10]⟩] w (K5 w (fun _ : Unit => .tuple #[K4 (Lib.trimSuffix l [10]), .bool (Lib.hasSuffix l [10])]) fun _ _ => True) :=
 (Tryz.strings_CutSuffix ⟨l.toArray⟩ ⟨#[10]⟩ w (show l.length ≤ _ by omega)).mono fun e w' h => ⟨(), h.1, by rw [h.2]; exact Below.refl _ _, fun _ _ _ => trivial⟩
theorem split_m (c : UInt8) (hM : ML w) (hl : l.length ≤ 100000000) : Calls Tryz.prog 85 #[K4 l, .string ⟨#[c]⟩] w (K5 w (fun y : Nat => .slice (some ⟨y, 0, none⟩) (Kc c l).length (Kc c l).length) fun y u => L6 u (some ⟨y, 0, none⟩) (Kc c l).length (Kc c l)) := by
 obtain ⟨m, hm⟩ := hM
 refine (Tryz.strings_Split ⟨l.toArray⟩ ⟨#[c]⟩ m w (show l.length < _ by omega) hm (show 1 ≤ 1 from Nat.le_refl 1)).mono fun e w' h => ?_
 obtain ⟨he, hw⟩ := h
 have hdat := Lib.splitB_data ⟨#[c]⟩ 0 (Lib.countB ⟨l.toArray⟩ ⟨#[c]⟩) ⟨l.toArray⟩
 have hsp : Lib.splitK [c] 0 (Lib.count l [c]) l = Kc c l := lib_split c _ l (Nat.le_refl _)
 have hdat' : (Lib.splitB ⟨#[c]⟩ 0 (Lib.countB ⟨l.toArray⟩ ⟨#[c]⟩) ⟨l.toArray⟩).map (·.data.toList) = Kc c l := hdat.trans hsp
 have hlen : (Kc c l).length = Lib.countB ⟨l.toArray⟩ ⟨#[c]⟩ + 1 := by
  rw [← hdat', List.length_map]
  exact Lib.splitB_all ⟨#[c]⟩ (show 1 ≤ 1 from Nat.le_refl 1) 0 _ _ rfl
 refine ⟨w.heap.size, by rw [he, hlen], by rw [hw]; exact below_new _ _, fun w'' h1 h2 => ⟨rfl, fun k s hk => ⟨_, rfl, ?_⟩⟩⟩
 rw [hw] at h1 h2
 obtain ⟨h3, _⟩ := alloc_at w _ h1 h2
 rw [← hdat', List.getElem?_map] at hk
 obtain ⟨b, hb, rfl⟩ := Option.map_eq_some_iff.1 hk
 rw [Addr.add_mid, Nat.zero_add]
 simp only [World.cell?, h3, Option.isSome_none, Bool.false_eq_true, if_false]
 simp [hb, K4]
theorem joinFields_m (hs : L6 w A n ls) (hn : ls.length ≤ 2000000) (ht : Ok ls ≤ 2000000) : Calls Tryz.prog 17 #[.slice A n c] w (K5 w (fun _ : Unit => K4 (M4 ls)) fun _ _ => True) := by
 have hln := hs.1
 have hjl := joinF_len ls
 refine K0.enter Tryz.func17 rfl ?_
 refine ZR ?_
 refine K0.loop (ι := {q : Nat × (Option Addr × Nat) // q.1 ≤ n}) 20 (fun q => ⟨[(0, .v (.slice A n c)), (3, .v (.slice q.1.2.1 q.1.1 q.1.2.2)), (6, .v (.slice A n c)), (7, .v (.int .i64 n)), (8, .v (.int .i64 q.1.1))], []⟩) (fun q u => K6 u w.heap.size 9 1 q.1.2.1 q.1.1 q.1.2.2 (sv ((ls.take q.1.1).map M8))) (fun q => n - q.1.1) (⟨(0, none, 0), Nat.zero_le _⟩) Zk (fun _ => by kernel_rfl) ⟨Zk, Zk, Zk⟩ (fun u h => K6.nil_) ?_
 rintro ⟨⟨m, y, yc⟩, hk⟩ gg
 have hk1 : m ≤ n := hk
 by_cases hlt : m < n
 ·
  refine ZR ?_
  refine ZJ (decide ((m : Int) < (n : Int))) true Zp ?_
  obtain ⟨s, hsk⟩ : ∃ s, ls[m]? = some s := ⟨_, List.getElem?_eq_getElem (by rw [hln]; exact hlt)⟩
  obtain ⟨ad, hA, hcell⟩ := hs.2 m s hsk
  have hsl := mem_sum (List.mem_of_getElem? hsk)
  obtain ⟨p, hp⟩ : ∃ p, p = (ls.take m).map M8 := ⟨_, rfl⟩
  have hp2 : (ls.take (m + 1)).map M8 = p ++ [M8 s] := by rw [take_snoc hsk, List.map_append, hp]; rfl
  refine ZA (Kx 64 (.slice A n c) m) (.pointer (some (ad.add m))) (fun w1 hw h => by rw [hA]; exact Kh (elem := 9) Zk Zk hlt) ?_
  refine ZA (Ln 9 (ad.add m)) (K4 s) (fun w1 hw h => K9 Zk (Mw hw hcell)) ?_
  refine ZD 3 (fun w1 hw h => quote_m (l := s) Zo) fun u => ?_
  refine K0.make (Li 64 1 #[(0, K4 (M8 s))]) (Ki 1) (L8 9 #[K4 (M8 s)]) Zk (fun w1 hw h => Kb Zk) (fun gb => ?_)
  refine ZS 4 ?_
  refine K0.mutOp (L := bl y) (val := fun (z : Option Addr × Nat) => .slice z.1 (m + 1) z.2) (Φ' := fun (z : Option Addr × Nat) v => K6 v w.heap.size 9 1 z.1 (m + 1) z.2 (sv (p ++ [M8 s]))) (G := fun (z : Option Addr × Nat) v => K6 v w.heap.size 9 1 z.1 (m + 1) z.2 (sv (p ++ [M8 s]))) (M2 64 64 (.slice y m yc) (Ki 1 gb)) (fun w1 hw h => by have ho : K6 w1 w.heap.size 9 1 y m yc (sv p) := by { rw [hp]; exact h.1.1 }; exact Qz ho hw.size h.2 (show m < 100000000 from by omega)) (fun w1 h => fun b hb => ⟨((show K6 w1 w.heap.size 9 1 y m yc (sv ((ls.take m).map M8)) from h.1.1).lt b hb).1, ((show K6 w1 w.heap.size 9 1 y m yc (sv ((ls.take m).map M8)) from h.1.1).blk b hb).2⟩) (fun z wa w1 e1 e2 h hG => hG) Zk Zk (fun z => ?_)
  refine ZR ?_
  refine K0.slot 8 (.int .i64 (IntKind.i64.wrap ((m : Int) + 1))) (.int .i64 ((m + 1 : Nat) : Int)) Zk (by rw [Kf hlt Zo]) ?_
  refine K0.next (⟨(m + 1, z), by show m + 1 ≤ n; omega⟩) Zk (by show n - (m + 1) < n - m; omega) ⟨Zk, Zk, Zk⟩ (fun _ h => by show K6 _ _ _ _ _ _ _ (sv ((ls.take (m + 1)).map M8)); rw [hp2]; exact h)
 ·
  refine ZR ?_
  refine ZJ (decide ((m : Int) < (n : Int))) false Zp ?_
  obtain rfl : m = n := by omega
  have hfull : ls.take m = ls := List.take_of_length_le Zo
  refine K0.leave Zk ?_
  refine ZR ?_
  refine ZC (fun w1 hw h => join_m (p := ls.map M8) (by rw [← hfull]; exact h) (by show (M4 ls).length ≤ _; omega) (show m ≤ 100000000 from by omega)) fun u => ?_
  exact ZW (K4 (N5 32 (ls.map M8)))
theorem rjoinFields_m (hs : L6 w A n ls) (hn : ls.length ≤ 2000000) (ht : Ok ls ≤ 2000000) : Calls Tryz.prog 20 #[.slice A n c] w (K5 w (fun _ : Unit => K4 (M4 ls)) fun _ _ => True) := by
 have hln := hs.1
 refine K0.enter Tryz.func20 rfl ?_
 refine ZR ?_
 refine K0.loop (ι := {q : Nat // q ≤ n}) 23 (fun q => ⟨[(0, .v (.slice A n c)), (3, .v (K4 (M4 (ls.take q.1)))), (4, .v (.int .i64 q.1))], []⟩) (fun q u => True) (fun q => n - q.1) (⟨0, Nat.zero_le _⟩) Zk (fun _ => by kernel_rfl) ⟨Zk, Zk, Zk⟩ (fun u h => trivial) ?_
 rintro ⟨m, hk⟩ gg
 by_cases hlt : m < n
 ·
  refine ZR ?_
  refine ZJ (decide ((m : Int) < (n : Int))) true Zp ?_
  obtain ⟨s, hsk⟩ : ∃ s, ls[m]? = some s := ⟨_, List.getElem?_eq_getElem (by rw [hln]; exact hlt)⟩
  obtain ⟨ad, hA, hcell⟩ := hs.2 m s hsk
  have hsl := mem_sum (List.mem_of_getElem? hsk)
  have hjt := joinF_take ls m
  have hql := (quo_len s).2
  have hp2 : M4 (ls.take (m + 1)) = if m = 0 then M8 s else M4 (ls.take m) ++ 32 :: M8 s := by
   unfold M4
   rw [take_snoc hsk, List.map_append, List.map_singleton, join_snoc]
   by_cases h0 : m = 0
   ·subst h0; simp
   ·rw [if_neg (by simp; exact ⟨h0, fun e => by rw [e] at hsk; cases hsk⟩), if_neg h0]
  by_cases h0 : m = 0
  ·subst h0
   rw [if_pos rfl] at hp2
   refine ZJ (decide (((0 : Nat) : Int) > 0)) false Zs ?_
   refine ZA (Kx 64 (.slice A n c) (0 : Nat)) (.pointer (some (ad.add 0))) (fun w1 hw h => by rw [hA]; exact Kh (elem := 9) Zk Zk hlt) ?_
   refine ZA (Ln 9 (ad.add 0)) (K4 s) (fun w1 hw h => K9 Zk (Mw hw hcell)) ?_
   refine ZD 6 (fun w1 hw h => rquote_m (l := s) Zo) fun u => ?_
   refine ZA (Ov .add 9 (.tmp 15) (.tmp 20) (K4 (M4 (ls.take 0))) (K4 (M8 s))) (K4 (M4 (ls.take (0 + 1)))) (fun w1 hw h => by rw [N8 (by simp [M4, N5]; omega), hp2]; simp [M4, N5]) ?_
   refine K0.slot 4 (.int .i64 (IntKind.i64.wrap (((0 : Nat) : Int) + 1))) (.int .i64 ((0 + 1 : Nat) : Int)) Zk (by rw [Kf hlt Zo]) ?_
   refine K0.next (⟨0 + 1, by show 0 + 1 ≤ n; omega⟩) Zk (by show n - (0 + 1) < n - 0; omega) ⟨Zk, Zk, Zk⟩ (fun _ h => trivial)
  ·rw [if_neg h0] at hp2
   refine K0.condr (decide ((m : Int) > 0)) true Zk Zp ?_
   refine ZS 1 ?_
   refine ZA (Ov .add 9 (.tmp 13) (.const (.string ⟨#[32]⟩)) (K4 (M4 (ls.take m))) (K4 [32])) (K4 (M4 (ls.take m) ++ [32])) (fun w1 hw h => N8 Zp) ?_
   refine ZA (Kx 64 (.slice A n c) m) (.pointer (some (ad.add m))) (fun w1 hw h => by rw [hA]; exact Kh (elem := 9) Zk Zk hlt) ?_
   refine ZA (Ln 9 (ad.add m)) (K4 s) (fun w1 hw h => K9 Zk (Mw hw hcell)) ?_
   refine ZD 6 (fun w1 hw h => rquote_m (l := s) Zo) fun u => ?_
   refine ZA (Ov .add 9 (.tmp 15) (.tmp 20) (K4 (M4 (ls.take m) ++ [32])) (K4 (M8 s))) (K4 (M4 (ls.take (m + 1)))) (fun w1 hw h => by rw [N8 Zp, hp2]; simp) ?_
   refine K0.slot 4 (.int .i64 (IntKind.i64.wrap ((m : Int) + 1))) (.int .i64 ((m + 1 : Nat) : Int)) Zk (by rw [Kf hlt Zo]) ?_
   refine K0.next (⟨m + 1, by show m + 1 ≤ n; omega⟩) Zk (by show n - (m + 1) < n - m; omega) ⟨Zk, Zk, Zk⟩ (fun _ h => trivial)
 ·
  refine ZR ?_
  refine ZJ (decide ((m : Int) < (n : Int))) false Zp ?_
  have hfull : ls.take m = ls := List.take_of_length_le Zo
  refine K0.leave Zk ?_
  refine ZR ?_
  exact ZX (K4 (M4 (ls.take m))) (by rw [hfull])
theorem joinLines_m (hs : L6 w A n ls) (hn : ls.length ≤ 2000000) (ht : Ok ls ≤ 2000000) : Calls Tryz.prog 39 #[.slice A n c] w (K5 w (fun _ : Unit => K4 (joinN ls)) fun _ _ => True) := by
 have hln := hs.1
 refine K0.enter Tryz.func39 rfl ?_
 refine ZS 0 ?_
 refine K0.run Zk (stop := 1000) 1 _ ?_
 refine ZS 0 ?_
 refine K0.make (allS 143) (ptr) (fun g u => BAt w g [] u) Zk (fun w1 hw h => make_bld hw.size) (fun g => ?_)
 refine ZR ?_
 refine K0.loop (ι := {q : Nat // q ≤ n}) 17 (fun q => ⟨[(0, .v (.slice A n c)), (3, .v (ptr g)), (6, .v (.slice A n c)), (7, .v (.int .i64 n)), (8, .v (.int .i64 q.1))], []⟩) (fun q u => BAt w g (joinN (ls.take q.1)) u) (fun q => n - q.1) (⟨0, Nat.zero_le _⟩) Zk (fun _ => by kernel_rfl) ⟨Zk, Zk, Zk⟩ (fun u h => h.2) ?_
 rintro ⟨m, hk⟩ gg
 by_cases hlt : m < n
 ·
  refine ZR ?_
  refine ZJ (decide ((m : Int) < (n : Int))) true Zp ?_
  obtain ⟨s, hsk⟩ : ∃ s, ls[m]? = some s := ⟨_, List.getElem?_eq_getElem (by rw [hln]; exact hlt)⟩
  obtain ⟨ad, hA, hcell⟩ := hs.2 m s hsk
  have hsl := mem_sum (List.mem_of_getElem? hsk)
  have hjt := joinN_take ls m
  refine ZA (Kx 64 (.slice A n c) m) (.pointer (some (ad.add m))) (fun w1 hw h => by rw [hA]; exact Kh (elem := 9) Zk Zk hlt) ?_
  refine K0.ask (Ln 9 (ad.add m)) (K4 s) Zk (fun w1 hw h => K9 Zk (Mw hw hcell)) ?_
  refine ZS 0 ?_
  refine K0.run Zk (stop := 1000) 1 _ ?_
  refine ZS 1 ?_
  refine ZA (Ov .add 9 (.tmp 12) (.const (.string ⟨#[10]⟩)) (K4 s) (K4 [10])) (K4 (s ++ [10])) (fun w1 hw h => N8 Zp) ?_
  refine K0.callB (val := fun _ => .tuple #[.int .i64 (s ++ [10]).length, .nilIface]) (Φ' := fun (_ : Unit) u => BAt w g (joinN (ls.take m) ++ (s ++ [10])) u) (fun w1 hw h => wstr_m (l := s ++ [10]) hw h (by show (joinN (ls.take m)).length + _ ≤ _; simp only [List.length_append, List.length_singleton]; omega)) Zk Zk Zk (fun _ => ?_)
  refine ZR ?_
  refine K0.slot 8 (.int .i64 (IntKind.i64.wrap ((m : Int) + 1))) (.int .i64 ((m + 1 : Nat) : Int)) Zk (by rw [Kf hlt Zo]) ?_
  refine K0.next (⟨m + 1, by show m + 1 ≤ n; omega⟩) Zk (by show n - (m + 1) < n - m; omega) ⟨Zk, Zk, Zk⟩ (fun _ h => by show BAt w g (joinN (ls.take (m + 1))) _; rw [take_snoc hsk, joinN_snoc]; exact h)
 ·
  refine ZR ?_
  refine ZJ (decide ((m : Int) < (n : Int))) false Zp ?_
  have hfull : ls.take m = ls := List.take_of_length_le Zo
  refine K0.leave Zk ?_
  refine ZR ?_
  refine K0.callB (val := fun _ => K4 (joinN ls)) (Φ' := fun (_ : Unit) u => True) (fun w1 hw h => bstr_m hw (by rw [← hfull]; exact h)) Zk Zk Zk (fun _ => ?_)
  refine ZR ?_
  exact ZW (K4 (joinN ls))
end
def inScopeC (c : O8) : Option O8 := match c.foc with
 | .code (.scope x) => match c.k with
  | [] => some ⟨.code x, [], c.st⟩
  | _ => none
 | _ => none
def amScope (c : O8) : O8 := (inScopeC c).getD c
theorem K0.scope {P : Program} {Δ : List Deferred} {W : World} {fn : Func} {R : Ending → World → Prop} {Φ : World → Prop} {c : O8} (hc : (inScopeC c).isSome = true) (h : K0 P Δ W (bodyPost P fn R) Φ (amScope c)) : K0 P Δ W (bodyPost P fn R) Φ c := by
 obtain ⟨foc, k, σ⟩ := c
 unfold amScope at h
 unfold inScopeC at hc h
 simp only at hc h
 split at hc
 ·rename_i x
  split at hc
  ·replace h := h.get
   refine ⟨fun hwf β a w hr => wp_scope_straight (wp_mono (h hwf β a w hr) fun e a w hq => ?_)⟩
   cases e <;> first | exact hq | exact hq.elim
  ·cases hc
 ·cases hc
section
variable {w : World} {l : List UInt8} {o : Option (List UInt8)}
theorem run_frm {P : Program} {t : TypeId} {i : Nat} (ht : P.underlying t = some .string) (h : i ≤ l.length) : (fromA t (K4 l) i).run P w = .ok (.value (K4 (l.drop i))) w := by
 have := run_slice_string_l (P := P) w t ⟨l.toArray⟩ ht .i64 i Zo (by show (i : Int) ≤ ((l.length : Nat) : Int); omega)
 simp only [fromA, K4, Sem.run_bind, sliceAtS ht, this, Result.andThen_ok, Sem.run_pure, Int.toNat_natCast]
 have e : (⟨l.toArray⟩ : ByteArray).extract i (⟨l.toArray⟩ : ByteArray).size = ⟨(l.drop i).toArray⟩ := by
  apply ByteArray.ext
  simp [ByteArray.data_extract, ByteArray.size, List.take_of_length_le]
 rw [e]
theorem unq_n (h : Qk l = none) (hl : l.length ≤ 90000000) : Calls Tryz.prog 137 #[K4 l] w (K5 w (fun _ : Unit => .tuple #[K4 [], .int .i64 3]) fun _ _ => True) := unquote_m h hl
theorem unq_s {s : List UInt8} (h : Qk l = some s) (hl : l.length ≤ 90000000) : Calls Tryz.prog 137 #[K4 l] w (K5 w (fun _ : Unit => .tuple #[K4 s, .int .i64 0]) fun _ _ => True) := unquote_m h hl
theorem runq_n (h : Qk l = none) (hl : l.length ≤ 10000) : Calls Tryz.prog 73 #[K4 l] w (K5 w (fun _ : Unit => .tuple #[K4 [], .int .i64 3]) fun _ _ => True) := runquote_m h hl
theorem runq_s {s : List UInt8} (h : Qk l = some s) (hl : l.length ≤ 10000) : Calls Tryz.prog 73 #[K4 l] w (K5 w (fun _ : Unit => .tuple #[K4 s, .int .i64 0]) fun _ _ => True) := runquote_m h hl
theorem cut5_v {c : UInt8} {x r : List UInt8} {b : Bool} (h : cutC c l = (x, r, b)) (hM : ML w) (hl : l.length ≤ 100000000) : Calls Tryz.prog 136 #[K4 l, .string ⟨#[c]⟩] w (K5 w (fun _ : Unit => .tuple #[K4 x, K4 r, .bool b]) fun _ _ => True) := by
 have := cut5_m (w := w) (l := l) c hM hl
 rw [h] at this; exact this
theorem allW_cons {x : List UInt8} {t : List (List UInt8)} : Q6 (x :: t) = ((Qk x).isSome && Q6 t) := rfl
theorem unqAll_some {x s : List UInt8} {t : List (List UInt8)} (h : Qk x = some s) : L7 (x :: t) = s :: L7 t := by rw [L7, h]
theorem unqAll_none {x : List UInt8} {t : List (List UInt8)} (h : Qk x = none) : L7 (x :: t) = [] := by rw [L7, h]
def fldV (B : Bool) (ps : List (List UInt8)) (y : Option Addr × Nat) : Value := match B with
 | true => .tuple #[.slice y.1 ps.length y.2, .int .i64 0, .int .i64 0]
 | false => .tuple #[.slice none 0 0, .int .i64 ps.length, .int .i64 3]
def fldG (B : Bool) (ps : List (List UInt8)) (y : Option Addr × Nat) (u : World) : Prop := match B with
 | true => L6 u y.1 ps.length ps ∧ ps.length ≤ y.2
 | false => True
theorem split_mem (c : UInt8) : ∀ (l : List UInt8), ∀ x ∈ Kc c l, x.length ≤ l.length
 | [], x, h => by simp [Kc] at h; subst h; exact Nat.le_refl _
 | b :: l, x, h => by
  have ih := split_mem c l
  rw [Kc] at h
  split at h
  ·rcases List.mem_cons.1 h with rfl | h
   ·simp
   ·have := ih x h; simp only [List.length_cons]; omega
  ·cases hs : Kc c l with
   | nil => exact absurd hs (splitBy_ne c l)
   | cons y t =>
    rw [hs] at h ih
    rcases List.mem_cons.1 h with rfl | h
    ·have := ih y Zs; simp only [List.length_cons]; omega
    ·have := ih x (by simp [h]); simp only [List.length_cons]; omega
theorem strAt_nil : L6 w none 0 [] := ⟨rfl, fun k s h => by simp at h⟩
theorem splitFields_m {B : Bool} {ps : List (List UInt8)} (hM : ML w) (hB : Q6 (La l) = B) (hps : L7 (La l) = ps) (hl : l.length ≤ 10000000) : Calls Tryz.prog 69 #[K4 l] w (K5 w (fun y : Option Addr × Nat => fldV B ps y) fun y u => fldG B ps y u) := by
 by_cases h0 : l = []
 ·subst h0
  obtain rfl : B = true := by rw [← hB]; rfl
  obtain rfl : ps = [] := by rw [← hps]; rfl
  refine K0.enter Tryz.func69 rfl ?_
  refine ZR ?_
  refine K0.scope Zk ?_
  refine ZR ?_
  refine K0.loop (ι := Unit) 39 (fun _ => ⟨[(0, .v (K4 [])), (5, .v (.slice none 0 0))], []⟩) (fun _ _ => True) (fun _ => 0) (()) Zk (fun _ => by kernel_rfl) ⟨Zk, Zk, Zk⟩ (fun _ _ => trivial) ?_
  rintro ⟨⟩ g
  refine ZS 1 ?_
  refine ZA (Ov .neq 9 (.tmp 13) (.const (.string ⟨#[]⟩)) (K4 []) (K4 [])) (.bool false) (fun w1 hw h => run_neS Zs) ?_
  refine ZI false ?_
  refine K0.leave Zk ?_
  refine ZR ?_
  refine ZV (.tuple #[.slice none 0 0, .int .i64 0, .int .i64 0]) (fun w1 hw h => ⟨(none, 0), rfl, hw, fun _ _ _ => ⟨strAt_nil, Nat.le_refl _⟩⟩)
 have hw0 : La l = Kc 32 l := if_neg h0
 rw [hw0] at hB hps
 refine K0.enter Tryz.func69 rfl ?_
 refine ZR ?_
 refine K0.scope Zk ?_
 refine ZR ?_
 refine K0.loop (ι := {q : (List UInt8 × Nat × List (List UInt8)) × (Option Addr × Nat) // q.1.2.1 + q.1.1.length ≤ l.length ∧ L7 (Kc 32 l) = q.1.2.2 ++ L7 (Kc 32 q.1.1) ∧ Q6 (Kc 32 l) = Q6 (Kc 32 q.1.1) ∧ q.1.2.2.length = q.1.2.1}) 39 (fun q => ⟨[(0, .v (K4 l)), (5, .v (.slice q.1.2.1 q.1.1.2.1 q.1.2.2)), (6, .v (K4 q.1.1.1))], []⟩) (fun q u => K6 u w.heap.size 9 1 q.1.2.1 q.1.1.2.1 q.1.2.2 (sv q.1.1.2.2)) (fun q => q.1.1.1.length) (⟨((l, 0, []), (none, 0)), by simp, by simp, rfl, rfl⟩) Zk (fun _ => by kernel_rfl) ⟨Zk, Zk, Zk⟩ (fun u h => K6.nil_) ?_
 rintro ⟨⟨⟨r, m, p⟩, y, yc⟩, hk⟩ g
 have hk1 : m + r.length ≤ l.length := hk.1
 have hk2 : L7 (Kc 32 l) = p ++ L7 (Kc 32 r) := hk.2.1
 have hk3 : Q6 (Kc 32 l) = Q6 (Kc 32 r) := hk.2.2.1
 have hk4 : p.length = m := hk.2.2.2
 obtain ⟨x, r2, b, hcut⟩ : ∃ x r2 b, cutC 32 r = (x, r2, b) := ⟨_, _, _, rfl⟩
 have hxl : x.length ≤ r.length := by
  cases b
  ·have h1 := cut_not 32 (l := r) (by rw [hcut]); rw [hcut] at h1; have h2 : x = r := h1.2; rw [h2]; exact Nat.le_refl _
  ·have h1 := cut_yes 32 (l := r) (by rw [hcut]); rw [hcut] at h1; have h2 : x.length + r2.length + 1 = r.length := h1.2; omega
 have hsp : ∃ t, Kc 32 r = x :: t := by
  cases b
  ·have h1 := cut_not 32 (l := r) (by rw [hcut]); rw [hcut] at h1; have h2 : x = r := h1.2; exact ⟨[], by rw [h1.1, h2]⟩
  ·have h1 := cut_yes 32 (l := r) (by rw [hcut]); rw [hcut] at h1; exact ⟨_, h1.1⟩
 refine ZS 1 ?_
 refine ZA (Ov .neq 9 (.tmp 13) (.const (.string ⟨#[]⟩)) (K4 l) (K4 [])) (.bool true) (fun w1 hw h => run_neS (by simpa using h0)) ?_
 refine ZI true ?_
 refine ZC (fun w1 hw h => cut5_v hcut (hM.below hw) (show r.length ≤ _ from by omega)) fun u => ?_
 cases hu : Qk x with
 | none =>
  obtain ⟨t, ht⟩ := hsp
  obtain rfl : B = false := by rw [← hB, hk3, ht, allW_cons, hu]; rfl
  obtain rfl : ps = p := by rw [← hps, hk2, ht, unqAll_none hu, List.append_nil]
  refine ZC (fun w1 hw h => unq_n hu Zo) fun u => ?_
  refine ZI true ?_
  refine K0.leave Zk ?_
  refine ZR ?_
  refine ZV (.tuple #[.slice none 0 0, .int .i64 m, .int .i64 3]) (fun w1 hw h => ⟨(none, 0), by rw [← hk4]; rfl, hw, fun _ _ _ => trivial⟩)
 | some s =>
  refine ZC (fun w1 hw h => unq_s hu Zo) fun u => ?_
  refine K0.cond false Zk ?_
  refine ZS 2 ?_
  refine K0.make (Li 64 1 #[(0, K4 s)]) (Ki 1) (L8 9 #[K4 s]) Zk (fun w1 hw h => Kb Zk) (fun gb => ?_)
  refine ZS 3 ?_
  refine K0.mutOp (L := bl y) (val := fun (z : Option Addr × Nat) => .slice z.1 (m + 1) z.2) (Φ' := fun (z : Option Addr × Nat) v => K6 v w.heap.size 9 1 z.1 (m + 1) z.2 (sv (p ++ [s]))) (G := fun (z : Option Addr × Nat) v => K6 v w.heap.size 9 1 z.1 (m + 1) z.2 (sv (p ++ [s]))) (M2 64 64 (.slice y m yc) (Ki 1 gb)) (fun w1 hw h => by have ho : K6 w1 w.heap.size 9 1 y m yc (sv p) := h.1.1.1; exact Qz ho hw.size h.2 (show m < 100000000 from by omega)) (fun w1 h => fun b hb => ⟨((show K6 w1 w.heap.size 9 1 y m yc (sv p) from h.1.1.1).lt b hb).1, ((show K6 w1 w.heap.size 9 1 y m yc (sv p) from h.1.1.1).blk b hb).2⟩) (fun z wa w1 e1 e2 h hG => hG) Zk Zk (fun z => ?_)
  refine ZR ?_
  cases b
  ·have h1 := cut_not 32 (l := r) (by rw [hcut])
   rw [hcut] at h1
   have hx : x = r := h1.2
   have h1' : Kc 32 r = [x] := by rw [h1.1, hx]
   obtain rfl : B = true := by rw [← hB, hk3, h1', allW_cons, hu]; rfl
   obtain rfl : ps = p ++ [s] := by rw [← hps, hk2, h1', unqAll_some hu]; rfl
   refine ZI true ?_
   refine K0.leave Zk ?_
   refine ZR ?_
   refine ZV (.tuple #[.slice z.1 (m + 1) z.2, .int .i64 0, .int .i64 0]) (fun w1 hw h => ⟨z, by show _ = Ending.returned (Value.tuple #[.slice z.1 (p ++ [s]).length z.2, .int .i64 0, .int .i64 0]); rw [List.length_append, hk4]; rfl, hw, fun w'' k1 k2 => by have hh : K6 w'' w.heap.size 9 1 z.1 (m + 1) z.2 (sv (p ++ [s])) := h w'' k1 k2; have h9 := hh.strs; have hc := (own_cap hh).1; show L6 w'' z.1 (p ++ [s]).length (p ++ [s]) ∧ (p ++ [s]).length ≤ z.2; rw [h9.1]; exact ⟨h9, hc⟩⟩)
  ·have h1 := cut_yes 32 (l := r) (by rw [hcut])
   rw [hcut] at h1
   have h1a : Kc 32 r = x :: Kc 32 r2 := h1.1
   have h1b : x.length + r2.length + 1 = r.length := h1.2
   refine ZI false ?_
   refine K0.next (⟨((r2, m + 1, p ++ [s]), z), by show m + 1 + r2.length ≤ l.length; omega, by show _ = (p ++ [s]) ++ L7 (Kc 32 r2); rw [hk2, h1a, unqAll_some hu]; simp, by show _ = Q6 (Kc 32 r2); rw [hk3, h1a, allW_cons, hu]; rfl, by simp [hk4]⟩) Zk (by show r2.length < r.length; omega) ⟨Zk, Zk, Zk⟩ (fun _ h => h)
theorem sf_n (hM : ML w) (hB : Q6 (La l) = false) (hl : l.length ≤ 10000000) : Calls Tryz.prog 69 #[K4 l] w (K5 w (fun _ : Option Addr × Nat => .tuple #[.slice none 0 0, .int .i64 (L7 (La l)).length, .int .i64 3]) fun _ _ => True) := splitFields_m hM hB rfl hl
theorem rcut_m (c : UInt8) (hl : l.length ≤ 20000) : Calls Tryz.prog 72 #[K4 l, .int .u8 c.toNat] w (K5 w (fun y : Option Addr × Nat => .slice y.1 (Kc c l).length y.2) fun y u => K6 u 0 9 1 y.1 (Kc c l).length y.2 (sv (Kc c l))) := by
 refine K0.enter Tryz.func72 rfl ?_
 refine ZR ?_
 refine K0.loop (ι := {q : (Nat × Nat × Nat × List (List UInt8)) × (Option Addr × Nat) // q.1.1 ≤ l.length ∧ q.1.2.1 ≤ q.1.1 ∧ q.1.2.2.2.length = q.1.2.2.1 ∧ q.1.2.2.1 ≤ q.1.1 ∧ Kc c l = q.1.2.2.2 ++ Kc c (l.drop q.1.2.1) ∧ ∀ j, q.1.2.1 ≤ j → j < q.1.1 → l[j]? ≠ some c}) 34 (fun q => ⟨[(0, .v (K4 l)), (1, .v (.int .u8 c.toNat)), (5, .v (.slice q.1.2.1 q.1.1.2.2.1 q.1.2.2)), (6, .v (.int .i64 q.1.1.2.1)), (7, .v (.int .i64 q.1.1.1))], []⟩) (fun q u => K6 u w.heap.size 9 1 q.1.2.1 q.1.1.2.2.1 q.1.2.2 (sv q.1.1.2.2.2)) (fun q => l.length - q.1.1.1) (⟨((0, 0, 0, []), (none, 0)), by simp, Nat.le_refl _, rfl, Nat.le_refl _, by simp, fun j h1 h2 => by simp at h2⟩) Zk (fun _ => by kernel_rfl) ⟨Zk, Zk, Zk⟩ (fun u h => K6.nil_) ?_
 rintro ⟨⟨⟨i, at_, m, p⟩, y, yc⟩, hk⟩ g
 have hk1 : i ≤ l.length := hk.1
 have hk2 : at_ ≤ i := hk.2.1
 have hk3 : p.length = m := hk.2.2.1
 have hk4 : m ≤ i := hk.2.2.2.1
 have hk5 : Kc c l = p ++ Kc c (l.drop at_) := hk.2.2.2.2.1
 have hk6 : ∀ j, at_ ≤ j → j < i → l[j]? ≠ some c := hk.2.2.2.2.2
 have hno : c ∉ (l.take i).drop at_ := fun hm => by
  obtain ⟨j, hj, e⟩ := List.getElem_of_mem hm
  have hj2 : j < i - at_ := by simp only [List.length_drop, List.length_take] at hj; omega
  refine hk6 (at_ + j) Zo Zo ?_
  rw [← e, List.getElem_drop, List.getElem_take]
  exact List.getElem?_eq_getElem Zo
 by_cases hlt : i < l.length
 ·
  refine ZR ?_
  refine K0.condr (decide ((i : Int) < (l.length : Int))) true Zk Zp ?_
  refine ZS 2 ?_
  obtain ⟨b, hb⟩ : ∃ b, l[i]? = some b := ⟨_, List.getElem?_eq_getElem hlt⟩
  refine ZA (ixS 9 (K4 l) i) (.int .u8 b.toNat) (fun w1 hw h => Lg Zk hb) ?_
  by_cases hbc : b = c
  ·subst hbc
   have hsp : Kc b (l.drop at_) = (l.take i).drop at_ :: Kc b (l.drop (i + 1)) := by
    have e : l.drop at_ = (l.take i).drop at_ ++ b :: l.drop (i + 1) := by
     have h1 : l = l.take i ++ (b :: l.drop (i + 1)) := by rw [← Q0 hb]; exact (List.take_append_drop i l).symm
     conv => lhs; rw [h1]
     rw [List.drop_append_of_le_length Zp]
    rw [e, splitBy_app _ hno]
   refine K0.condr ((((b.toNat : Nat) : Int) == ((b.toNat : Nat) : Int))) true Zk Zs ?_
   refine ZS 4 ?_
   refine K0.ask (slC 9 (K4 l) .i64 at_ i) (K4 ((l.take i).drop at_)) Zk (fun w1 hw h => run_slC Zk hk2 hk1) ?_
   refine ZS 5 ?_
   refine K0.make (Li 64 1 #[(0, K4 ((l.take i).drop at_))]) (Ki 1) (L8 9 #[K4 ((l.take i).drop at_)]) Zk (fun w1 hw h => Kb Zk) (fun gb => ?_)
   refine ZS 6 ?_
   refine K0.mutOp (L := bl y) (val := fun (z : Option Addr × Nat) => .slice z.1 (m + 1) z.2) (Φ' := fun (z : Option Addr × Nat) v => K6 v w.heap.size 9 1 z.1 (m + 1) z.2 (sv (p ++ [(l.take i).drop at_]))) (G := fun (z : Option Addr × Nat) v => K6 v w.heap.size 9 1 z.1 (m + 1) z.2 (sv (p ++ [(l.take i).drop at_]))) (M2 64 64 (.slice y m yc) (Ki 1 gb)) (fun w1 hw h => by have ho : K6 w1 w.heap.size 9 1 y m yc (sv p) := h.1; exact Qz ho hw.size h.2 (show m < 100000000 from by omega)) (fun w1 h => fun b hb => ⟨((show K6 w1 w.heap.size 9 1 y m yc (sv p) from h.1).lt b hb).1, ((show K6 w1 w.heap.size 9 1 y m yc (sv p) from h.1).blk b hb).2⟩) (fun z wa w1 e1 e2 h hG => hG) Zk Zk (fun z => ?_)
   refine ZR ?_
   refine K0.slot 6 (.int .i64 (IntKind.i64.wrap ((i : Int) + 1))) (.int .i64 ((i + 1 : Nat) : Int)) Zk (by rw [Kf hlt Zo]) ?_
   refine K0.slot 7 (.int .i64 (IntKind.i64.wrap ((i : Int) + 1))) (.int .i64 ((i + 1 : Nat) : Int)) Zk (by rw [Kf hlt Zo]) ?_
   refine K0.next (⟨((i + 1, i + 1, m + 1, p ++ [(l.take i).drop at_]), z), by show i + 1 ≤ l.length; omega, Nat.le_refl _, by simp [hk3], by show m + 1 ≤ i + 1; omega, by show _ = (p ++ [(l.take i).drop at_]) ++ Kc b (l.drop (i + 1)); rw [hk5, hsp]; simp, fun j h1 h2 => by have h1' : i + 1 ≤ j := h1; have h2' : j < i + 1 := h2; omega⟩) Zk (by show l.length - (i + 1) < l.length - i; omega) ⟨Zk, Zk, Zk⟩ (fun _ h => h)
  ·
   refine ZJ ((((b.toNat : Nat) : Int) == ((c.toNat : Nat) : Int))) false (by rw [beq_eq_false_iff_ne]; intro e; exact hbc (UInt8.toNat_inj.1 Zo)) ?_
   refine K0.slot 7 (.int .i64 (IntKind.i64.wrap ((i : Int) + 1))) (.int .i64 ((i + 1 : Nat) : Int)) Zk (by rw [Kf hlt Zo]) ?_
   refine K0.next (⟨((i + 1, at_, m, p), (y, yc)), by show i + 1 ≤ l.length; omega, by show at_ ≤ i + 1; omega, hk3, by show m ≤ i + 1; omega, hk5, fun j h1 h2 => by have h1' : at_ ≤ j := h1; have h2' : j < i + 1 := h2; by_cases e : j = i; rw [e, hb]; simpa using hbc; exact hk6 j h1' Zo⟩) Zk (by show l.length - (i + 1) < l.length - i; omega) ⟨Zk, Zk, Zk⟩ (fun _ h => h)
 ·obtain rfl : i = l.length := by omega
  have hsp : Kc c l = p ++ [l.drop at_] := by
   rw [List.take_length] at hno
   rw [hk5, splitBy_one hno]
  refine ZR ?_
  refine ZJ (decide ((l.length : Int) < (l.length : Int))) false Zs ?_
  refine K0.leave Zk ?_
  refine ZS 3 ?_
  refine K0.ask (fromA 9 (K4 l) at_) (K4 (l.drop at_)) Zk (fun w1 hw h => run_frm Zk hk2) ?_
  refine ZS 4 ?_
  refine K0.make (Li 64 1 #[(0, K4 (l.drop at_))]) (Ki 1) (L8 9 #[K4 (l.drop at_)]) Zk (fun w1 hw h => Kb Zk) (fun gb => ?_)
  refine ZS 5 ?_
  refine K0.mutOp (L := bl y) (val := fun (z : Option Addr × Nat) => .slice z.1 (m + 1) z.2) (Φ' := fun (z : Option Addr × Nat) v => K6 v w.heap.size 9 1 z.1 (m + 1) z.2 (sv (p ++ [l.drop at_]))) (G := fun (z : Option Addr × Nat) v => K6 v w.heap.size 9 1 z.1 (m + 1) z.2 (sv (p ++ [l.drop at_]))) (M2 64 64 (.slice y m yc) (Ki 1 gb)) (fun w1 hw h => by have ho : K6 w1 w.heap.size 9 1 y m yc (sv p) := h.1; exact Qz ho hw.size h.2 (show m < 100000000 from by omega)) (fun w1 h => fun b hb => ⟨((show K6 w1 w.heap.size 9 1 y m yc (sv p) from h.1).lt b hb).1, ((show K6 w1 w.heap.size 9 1 y m yc (sv p) from h.1).blk b hb).2⟩) (fun z wa w1 e1 e2 h hG => hG) Zk Zk (fun z => ?_)
  refine ZR ?_
  refine ZV (.slice z.1 (m + 1) z.2) (fun w1 hw h => ⟨z, by rw [hsp, List.length_append, hk3]; rfl, hw, fun w'' k1 k2 => by have h9 : K6 w'' w.heap.size 9 1 z.1 (m + 1) z.2 (sv (p ++ [l.drop at_])) := h w'' k1 k2; have e : (Kc c l).length = m + 1 := by { rw [hsp, List.length_append, hk3]; rfl }; rw [e, hsp]; exact h9.rebase fun _ _ => Nat.zero_le _⟩)
theorem rcut_f {B : Nat} (c : UInt8) (hl : l.length ≤ 20000) (hB : B ≤ w.heap.size) : Calls Tryz.prog 72 #[K4 l, .int .u8 c.toNat] w (K5 w (fun o : (Option Addr × Nat) × Nat => .slice o.1.1 (Kc c l).length o.1.2) fun o u => K6 u 0 9 1 o.1.1 (Kc c l).length o.1.2 (sv (Kc c l)) ∧ (∀ b ∈ bl o.1.1, b < o.2) ∧ B ≤ o.2 ∧ o.2 ≤ u.heap.size) :=
 (rcut_m c hl).mono fun e w' k => by
  obtain ⟨q, h1, h2, h3⟩ := K5.fresh k (fun y => bl y.1) (fun y u h b hb => (h.blk b hb).2)
  refine ⟨q, h1, h2, fun w'' k1 k2 => ?_⟩
  obtain ⟨h4, h5, h6⟩ := h3 w'' k1 k2
  have hne : 0 < (Kc c l).length := List.length_pos_iff.2 (splitBy_ne c l)
  obtain ⟨g, hg, _⟩ := (own_cap h4).2 hne
  have h7 := h5 g (by show g ∈ bl q.1.1; rw [hg]; simp [bl])
  exact ⟨h4, fun b hb => (h5 b hb).2, by omega, h6⟩
theorem rsplitFields_m {B : Bool} {ps : List (List UInt8)} (hB : Q6 (La l) = B) (hps : L7 (La l) = ps) (hl : l.length ≤ 10000) : Calls Tryz.prog 23 #[K4 l] w (K5 w (fun y : Option Addr × Nat => fldV B ps y) fun y u => fldG B ps y u) := by
 by_cases h0 : l = []
 ·subst h0
  obtain rfl : B = true := by rw [← hB]; rfl
  obtain rfl : ps = [] := by rw [← hps]; rfl
  refine K0.enter Tryz.func23 rfl ?_
  refine ZS 1 ?_
  refine K0.run Zk (stop := 1000) 2 _ ?_
  refine ZS 1 ?_
  refine ZA (Ov .eql 9 (.tmp 10) (.const (.string ⟨#[]⟩)) (K4 []) (K4 [])) (.bool true) (fun w1 hw h => L3 Zs) ?_
  refine ZI true ?_
  refine ZV (.tuple #[.slice none 0 0, .int .i64 0, .int .i64 0]) (fun w1 hw h => ⟨(none, 0), rfl, hw, fun _ _ _ => ⟨strAt_nil, Nat.le_refl _⟩⟩)
 have hw0 : La l = Kc 32 l := if_neg h0
 rw [hw0] at hB hps
 obtain ⟨ws, hws⟩ : ∃ ws, ws = Kc 32 l := ⟨_, rfl⟩
 have hwl : ws.length ≤ l.length + 1 := by rw [hws, split_count]; have := List.count_le_length (a := (32 : UInt8)) (l := l); omega
 have hmem : ∀ x ∈ ws, x.length ≤ l.length := by rw [hws]; exact split_mem 32 l
 refine K0.enter Tryz.func23 rfl ?_
 refine ZS 1 ?_
 refine K0.run Zk (stop := 1000) 2 _ ?_
 refine ZS 1 ?_
 refine ZA (Ov .eql 9 (.tmp 10) (.const (.string ⟨#[]⟩)) (K4 l) (K4 [])) (.bool false) (fun w1 hw h => L3 (by simpa using h0)) ?_
 refine ZI false ?_
 refine K0.callv (fun w1 hw h => rcut_f (l := l) (B := w.heap.size) 32 Zo hw.size) Zk (fun wy => ?_)
 obtain ⟨wy, N⟩ := wy
 rw [← hws] at hB hps ⊢
 refine ZR ?_
 refine K0.loop (ι := {q : (Nat × List (List UInt8)) × (Option Addr × Nat) // q.1.1 ≤ ws.length ∧ L7 ws = q.1.2 ++ L7 (ws.drop q.1.1) ∧ Q6 ws = Q6 (ws.drop q.1.1) ∧ q.1.2.length = q.1.1}) 37 (fun q => ⟨[(0, .v (K4 l)), (5, .v (.slice wy.1 ws.length wy.2)), (6, .v (.slice q.1.2.1 q.1.1.1 q.1.2.2)), (7, .v (.int .i64 q.1.1.1))], []⟩) (fun q u => (K6 u 0 9 1 wy.1 ws.length wy.2 (sv ws) ∧ (∀ b ∈ bl wy.1, b < N) ∧ w.heap.size ≤ N ∧ N ≤ u.heap.size) ∧ K6 u N 9 1 q.1.2.1 q.1.1.1 q.1.2.2 (sv q.1.1.2)) (fun q => ws.length - q.1.1.1) (⟨((0, []), (none, 0)), Nat.zero_le _, by simp, by simp, rfl⟩) Zk (fun _ => by kernel_rfl) ⟨Zk, Zk, Zk⟩ (fun u h => ⟨h.2, K6.nil_⟩) ?_
 rintro ⟨⟨⟨m, p⟩, y, yc⟩, hk⟩ g
 have hk1 : m ≤ ws.length := hk.1
 have hk2 : L7 ws = p ++ L7 (ws.drop m) := hk.2.1
 have hk3 : Q6 ws = Q6 (ws.drop m) := hk.2.2.1
 have hk4 : p.length = m := hk.2.2.2
 by_cases hlt : m < ws.length
 ·obtain ⟨x, hx⟩ : ∃ x, ws[m]? = some x := ⟨_, List.getElem?_eq_getElem hlt⟩
  have hxl := hmem x (List.mem_of_getElem? hx)
  have hdrop : ws.drop m = x :: ws.drop (m + 1) := by
   obtain ⟨h1, h2⟩ := List.getElem?_eq_some_iff.1 hx
   rw [List.drop_eq_getElem_cons h1, h2]
  rw [hdrop] at hk2 hk3
  refine ZR ?_
  refine ZJ (decide ((m : Int) < (ws.length : Int))) true Zp ?_
  refine K0.pure_ (p := ∃ ad, wy.1 = some ad) (fun u hu h => (by obtain ⟨g, hg, _⟩ := (own_cap h.1.1).2 Zo; exact ⟨_, hg⟩)) Zk (fun hwy => ?_)
  obtain ⟨ad, hA⟩ := hwy
  refine ZA (Kx 64 (.slice wy.1 ws.length wy.2) m) (.pointer (some (ad.add m))) (fun w1 hw h => by rw [hA]; exact Kh (elem := 9) Zk Zk hlt) ?_
  refine ZA (Ln 9 (ad.add m)) (K4 x) (fun w1 hw h => K9 Zk (by obtain ⟨ad2, h3, h4⟩ := h.1.1.strs.2 m x hx; rw [hA] at h3; cases h3; exact h4)) ?_
  cases hu : Qk x with
  | none =>
   obtain rfl : B = false := by rw [← hB, hk3, allW_cons, hu]; rfl
   obtain rfl : ps = p := by rw [← hps, hk2, unqAll_none hu, List.append_nil]
   refine ZC (fun w1 hw h => runq_n hu Zo) fun u => ?_
   refine ZI true ?_
   refine K0.leave Zk ?_
   refine ZR ?_
   refine ZV (.tuple #[.slice none 0 0, .int .i64 m, .int .i64 3]) (fun w1 hw h => ⟨(none, 0), by rw [← hk4]; rfl, hw, fun _ _ _ => trivial⟩)
  | some s =>
   refine ZC (fun w1 hw h => runq_s hu Zo) fun u => ?_
   refine K0.cond false Zk ?_
   refine ZS 2 ?_
   refine K0.make (Li 64 1 #[(0, K4 s)]) (Ki 1) (L8 9 #[K4 s]) Zk (fun w1 hw h => Kb Zk) (fun gb => ?_)
   refine ZS 3 ?_
   refine K0.mutOp (L := bl y) (val := fun (z : Option Addr × Nat) => .slice z.1 (m + 1) z.2) (Φ' := fun (z : Option Addr × Nat) v => (K6 v 0 9 1 wy.1 ws.length wy.2 (sv ws) ∧ (∀ b ∈ bl wy.1, b < N) ∧ w.heap.size ≤ N ∧ N ≤ v.heap.size) ∧ K6 v N 9 1 z.1 (m + 1) z.2 (sv (p ++ [s]))) (G := fun (z : Option Addr × Nat) v => K6 v N 9 1 z.1 (m + 1) z.2 (sv (p ++ [s]))) (M2 64 64 (.slice y m yc) (Ki 1 gb)) (fun w1 hw h => by have ho : K6 w1 N 9 1 y m yc (sv p) := h.1.1.2; exact Qz ho h.1.1.1.2.2.2 h.2 (show m < 100000000 from by omega)) (fun w1 h => fun b hb => ⟨Nat.le_trans h.1.1.1.2.2.1 ((show K6 w1 N 9 1 y m yc (sv p) from h.1.1.2).lt b hb).1, ((show K6 w1 N 9 1 y m yc (sv p) from h.1.1.2).blk b hb).2⟩) (fun z wa w1 e1 e2 h hG => ⟨⟨(h.1.1.1.1).left e2 (fun b hb hb2 => by have h1 := h.1.1.1.2.1 b hb; have h2 := ((show K6 wa N 9 1 y m yc (sv p) from h.1.1.2).lt b hb2).1; omega), h.1.1.1.2.1, h.1.1.1.2.2.1, by rw [← e1]; exact h.1.1.1.2.2.2⟩, hG⟩) Zk Zk (fun z => ?_)
   refine ZR ?_
   refine K0.slot 7 (.int .i64 (IntKind.i64.wrap ((m : Int) + 1))) (.int .i64 ((m + 1 : Nat) : Int)) Zk (by rw [Kf hlt Zo]) ?_
   refine K0.next (⟨((m + 1, p ++ [s]), z), by show m + 1 ≤ ws.length; omega, by show _ = (p ++ [s]) ++ L7 (ws.drop (m + 1)); rw [hk2, unqAll_some hu]; simp, by show _ = Q6 (ws.drop (m + 1)); rw [hk3, allW_cons, hu]; rfl, by simp [hk4]⟩) Zk (by show ws.length - (m + 1) < ws.length - m; omega) ⟨Zk, Zk, Zk⟩ (fun _ h => h)
 ·have hd : ws.drop m = [] := List.drop_of_length_le Zo
  rw [hd] at hk2 hk3
  obtain rfl : B = true := by rw [← hB, hk3]; rfl
  obtain rfl : ps = p := by rw [← hps, hk2]; show p ++ [] = p; rw [List.append_nil]
  refine ZR ?_
  refine ZJ (decide ((m : Int) < (ws.length : Int))) false Zp ?_
  refine K0.leave Zk ?_
  refine ZR ?_
  refine ZV (.tuple #[.slice y m yc, .int .i64 0, .int .i64 0]) (fun w1 hw h => ⟨(y, yc), by rw [← hk4]; rfl, hw, fun w'' k1 k2 => by have hh : K6 w'' N 9 1 y m yc (sv ps) := (h w'' k1 k2).2; have h9 := hh.strs; have hc := (own_cap hh).1; show L6 w'' y ps.length ps ∧ ps.length ≤ yc; rw [hk4]; exact ⟨h9, hc⟩⟩)
theorem rsf_s (hB : Q6 (La l) = true) (hl : l.length ≤ 10000) : Calls Tryz.prog 23 #[K4 l] w (K5 w (fun y : Option Addr × Nat => .tuple #[.slice y.1 (L7 (La l)).length y.2, .int .i64 0, .int .i64 0]) fun y u => L6 u y.1 (L7 (La l)).length (L7 (La l))) := (rsplitFields_m hB rfl hl).mono fun e w' k => k.cast fun y u h => (show _ ∧ _ from h).1
theorem rsf_n (hB : Q6 (La l) = false) (hl : l.length ≤ 10000) : Calls Tryz.prog 23 #[K4 l] w (K5 w (fun _ : Option Addr × Nat => .tuple #[.slice none 0 0, .int .i64 (L7 (La l)).length, .int .i64 3]) fun _ _ => True) := rsplitFields_m hB rfl hl
end
theorem ok_dec {l : List UInt8} (h0 : l ≠ []) : okN l = Lib.hasSuffix l [10] := by
 obtain ⟨m, b, rfl⟩ : ∃ m b, l = m ++ [b] := ⟨l.dropLast, l.getLast h0, (List.dropLast_concat_getLast h0).symm⟩
 unfold okN Lib.hasSuffix
 rw [List.getLast?_concat]
 by_cases hb : b = 10
 ·subst hb
  have h1 : ([10] : List UInt8).isSuffixOf (m ++ [10]) = true := List.isSuffixOf_iff_suffix.2 ⟨m, rfl⟩
  rw [h1]; simp
 ·have h1 : ([10] : List UInt8).isSuffixOf (m ++ [b]) = false := by
   cases hs : ([10] : List UInt8).isSuffixOf (m ++ [b])
   ·rfl
   ·obtain ⟨t, ht⟩ := List.isSuffixOf_iff_suffix.1 hs
    have := congrArg List.getLast? ht
    rw [List.getLast?_concat, List.getLast?_concat] at this
    injection this with this
    exact absurd this.symm hb
  rw [h1]; simp [hb]
theorem trim_ok {l : List UInt8} (h0 : l ≠ []) (h : okN l = true) : Lib.trimSuffix l [10] = l.dropLast := by
 unfold Lib.trimSuffix
 rw [← ok_dec h0, h, if_pos rfl, List.dropLast_eq_take]; rfl
section
variable {w : World} {l : List UInt8} {A A2 : Option Addr} {n n2 c c2 : Nat} {xs bs ls : List (List UInt8)}
def Calls_suf (l : List UInt8) : Prop := ∀ w, Calls Tryz.prog 84 #[K4 l, .string ⟨#[10]⟩] w (K5 w (fun _ : Unit => .tuple #[K4 l.dropLast, .bool true]) fun _ _ => True)
theorem sl_s (hM : ML w) (hB : okN l = true) (hl : l.length ≤ 10000000) : Calls Tryz.prog 33 #[K4 l] w (K5 w (fun y : Option Addr × Nat => .tuple #[.slice y.1 (linesN l).length y.2, .int .i64 0]) fun y u => L6 u y.1 (linesN l).length (linesN l)) := by
 refine K0.enter Tryz.func33 rfl ?_
 refine ZS 1 ?_
 refine K0.run Zk (stop := 1000) 1 _ ?_
 refine ZS 1 ?_
 by_cases h0 : l = []
 ·subst h0
  refine ZA (Ov .eql 9 (.tmp 6) (.const (.string ⟨#[]⟩)) (K4 []) (K4 [])) (.bool true) (fun w1 hw h => L3 Zs) ?_
  refine ZI true ?_
  refine ZV (.tuple #[.slice none 0 0, .int .i64 0]) (fun w1 hw h => ⟨(none, 0), rfl, hw, fun _ _ _ => strAt_nil⟩)
 have e1 := ok_dec h0
 have e2 := trim_ok h0 hB
 have e3 : linesN l = Kc 10 l.dropLast := if_neg h0
 rw [hB] at e1
 have hsuf : Calls_suf l := fun w => by have := suf_m (w := w) (l := l) Zo; rw [e2, ← e1] at this; exact this
 refine ZA (Ov .eql 9 (.tmp 6) (.const (.string ⟨#[]⟩)) (K4 l) (K4 [])) (.bool false) (fun w1 hw h => L3 (by simpa using h0)) ?_
 refine ZI false ?_
 refine ZC (fun w1 hw h => hsuf w1) fun u => ?_
 refine ZI false ?_
 refine ZC (fun w1 hw h => split_m 10 (l := l.dropLast) (hM.below hw) Zp) fun g => ?_
 refine ZV (.tuple #[.slice (some ⟨g, 0, none⟩) (Kc 10 l.dropLast).length (Kc 10 l.dropLast).length, .int .i64 0]) (fun w1 hw h => ⟨(some ⟨g, 0, none⟩, (Kc 10 l.dropLast).length), by rw [e3], hw, fun w'' k1 k2 => by rw [e3]; exact (h w'' k1 k2).2⟩)
end
end Go.Proofs.YtncodmhgfkailaaGreatDoor
