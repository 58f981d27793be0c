/-
 Numbers as text.
-/
import Derived.Test.YtdeepdckmhpldaaGreatDoorAIx
import Derived.Test.YtdeepdckmhpldaaGreatDoorAO
namespace Go.Proofs.YtdeepdckmhpldaaGreatDoor
set_option maxRecDepth 100000
set_option maxHeartbeats 8000000
set_option linter.unusedVariables false
set_option linter.unusedSimpArgs false
open Go.RowKit
section
variable {w : World} {a b : RV} {K K1 : Nat} {l : List UInt8}
def ML (w : World) : Prop := ∃ m, w.cell? ⟨1, 0, none⟩ = some (.int .i64 m)
theorem ML.below {w w' : World} (h : ML w) (hb : Below w.heap.size w w') : ML w' := by obtain ⟨m, hm⟩ := h; exact ⟨m, Ky hb hm⟩
def piE (l : List UInt8) : Int := if Mc l = 0 then (if fitB (Mw l) then 0 else 6) else Mc l
def piV (l : List UInt8) : Int := if piE l = 0 then Mw l else 0
theorem piE_bad (h : Mc l ≠ 0) : piE l = Mc l ∧ piV l = 0 := by
 have h1 : piE l = Mc l := if_neg h
 exact ⟨h1, by unfold piV; rw [if_neg (by rw [h1]; exact h)]⟩
theorem piE_far (h : Mc l = 0) (h2 : fitB (Mw l) = false) : piE l = 6 ∧ piV l = 0 := by
 have h1 : piE l = 6 := by unfold piE; rw [if_pos h, h2]; rfl
 exact ⟨h1, by unfold piV; rw [if_neg (by rw [h1]; decide)]⟩
theorem piE_good (h : Mc l = 0) (h2 : fitB (Mw l) = true) : piE l = 0 ∧ piV l = Mw l ∧ toV (Mw l) = Mw l := by
 have h1 : piE l = 0 := by unfold piE; rw [if_pos h, h2]; rfl
 exact ⟨h1, by unfold piV; rw [if_pos h1], by unfold toV; rw [h2]; rfl⟩
theorem itoInt_v {v : SV} {x : Int} {B : Bool} (hB : fitB x = B) (ia : Pd v x K w) (hK : K ≤ 274877906944) : Calls Tryz.prog 256 #[v.val] w (K5 w (fun _ : Unit => .tuple #[.int .i64 (toV x), .bool B]) fun _ _ => True) := by subst hB; exact itoInt_m ia hK
theorem xparseInt_m (hL : l.length ≤ 9223372036854775807) : Calls Tryz.prog 209 #[K3 l] w (K5 w (fun _ : Unit => .tuple #[.int .i64 (piV l), .int .i64 (piE l)]) fun _ _ => True) := by
 refine K0.enter Tryz.func209 rfl ?_
 refine ZR ?_
 refine ZC (fun w1 hw h => iparse_m hL) fun v => ?_
 by_cases hE : Mc l = 0
 case neg =>
  obtain ⟨e1, e2⟩ := piE_bad hE
  rw [e1, e2]
  refine ZJ (Mc l != 0) true (by simpa using hE) ?_
  exact ZW (.tuple #[.int .i64 0, .int .i64 (Mc l)])
 refine ZJ (Mc l != 0) false (by rw [hE]; rfl) ?_
 cases hF : fitB (Mw l)
 ·obtain ⟨e1, e2⟩ := piE_far hE hF
  rw [e1, e2]
  refine ZC (fun w1 hw h => itoInt_v hF h.2.i Zd) fun u => ?_
  refine ZI true ?_
  exact ZW (.tuple #[.int .i64 0, .int .i64 6])
 ·obtain ⟨e1, e2, e3⟩ := piE_good hE hF
  rw [e1, e2]
  refine ZC (fun w1 hw h => itoInt_v hF h.2.i Zd) fun u => ?_
  refine ZI false ?_
  exact ZX (.tuple #[.int .i64 (toV (Mw l)), .int .i64 0]) (by rw [e3])
def Vh (l : List UInt8) (lo hi : Int) : Int := if piE l = 0 then (if piV l < lo ∨ hi < piV l then 6 else 0) else piE l
def prgV (l : List UInt8) (lo hi : Int) : Int := if Vh l lo hi = 0 then piV l else 0
theorem xparseRange_m {lo hi : Int} (hL : l.length ≤ 9223372036854775807) : Calls Tryz.prog 207 #[K3 l, .int .i64 lo, .int .i64 hi] w (K5 w (fun _ : Unit => .tuple #[.int .i64 (prgV l lo hi), .int .i64 (Vh l lo hi)]) fun _ _ => True) := by
 refine K0.enter Tryz.func207 rfl ?_
 refine ZR ?_
 refine ZC (fun w1 hw h => xparseInt_m hL) fun v => ?_
 by_cases hE : piE l = 0
 case neg =>
  have e1 : Vh l lo hi = piE l := if_neg hE
  have e2 : prgV l lo hi = 0 := by unfold prgV; rw [if_neg (by rw [e1]; exact hE)]
  rw [e1, e2]
  refine ZJ (piE l != 0) true (by simpa using hE) ?_
  exact ZW (.tuple #[.int .i64 0, .int .i64 (piE l)])
 refine K0.condr (piE l != 0) false Zk (by rw [hE]; rfl) ?_
 refine ZS 3 ?_
 by_cases hlo : piV l < lo
 ·have e1 : Vh l lo hi = 6 := by unfold Vh; rw [if_pos hE, if_pos (.inl hlo)]
  have e2 : prgV l lo hi = 0 := by unfold prgV; rw [if_neg (by rw [e1]; decide)]
  rw [e1, e2]
  refine ZT 22 (.bool (decide (piV l < lo))) (.bool true) (by rw [decide_eq_true hlo]) ?_
  refine ZI true ?_
  exact ZW (.tuple #[.int .i64 0, .int .i64 6])
 refine ZT 22 (.bool (decide (piV l < lo))) (.bool false) (by rw [decide_eq_false hlo]) ?_
 by_cases hhi : hi < piV l
 ·have e1 : Vh l lo hi = 6 := by unfold Vh; rw [if_pos hE, if_pos (.inr hhi)]
  have e2 : prgV l lo hi = 0 := by unfold prgV; rw [if_neg (by rw [e1]; decide)]
  rw [e1, e2]
  refine ZJ (decide (piV l > hi)) true (decide_eq_true hhi) ?_
  exact ZW (.tuple #[.int .i64 0, .int .i64 6])
 ·have e1 : Vh l lo hi = 0 := by unfold Vh; rw [if_pos hE, if_neg Zo]
  have e2 : prgV l lo hi = piV l := by unfold prgV; rw [if_pos e1]
  rw [e1, e2]
  refine ZJ (decide (piV l > hi)) false (decide_eq_false hhi) ?_
  exact ZW (.tuple #[.int .i64 (piV l), .int .i64 0])
theorem Kk {n : Int} (h1 : -9223372036854775808 ≤ n) (h2 : n ≤ 9223372036854775807) : Calls Tryz.prog 14 #[.int .i64 n] w (K5 w (fun _ : Unit => K3 (K6 n)) fun _ _ => True) := by
 refine K0.enter Tryz.func14 rfl ?_
 refine ZR ?_
 refine ZC (fun w1 hw h => Yv n w1 h1 h2) fun v => ?_
 refine ZC (fun w1 hw h => iformat_m h.2.i Zd) fun u => ?_
 exact ZW (K3 (K6 n))
theorem L6 {n : Int} (h1 : -9223372036854775808 ≤ n) (h2 : n ≤ 9223372036854775807) : Calls Tryz.prog 20 #[.int .i64 n] w (K5 w (fun _ : Unit => K3 (K6 n)) fun _ _ => True) := by
 refine K0.enter Tryz.func20 rfl ?_
 refine ZR ?_
 refine ZC (fun w1 hw h => Ve n w1 h1 h2) fun v => ?_
 refine ZC (fun w1 hw h => rformat_m h.2.i Zd) fun u => ?_
 exact ZW (K3 (K6 n))
end
theorem parse_fmtI {x : Int} (h : (Nr x.natAbs).length ≤ 1000) : Mc (K6 x) = 0 ∧ Mw (K6 x) = x := by
 obtain ⟨h1, h2⟩ := parse_decS h
 by_cases hx : x < 0
 ·rw [fmtI_neg hx]
  have hz : ¬ (Ua (45 :: Nr x.natAbs) = true ∧ Nh (Mm (45 :: Nr x.natAbs)) = 0) := by
   rintro ⟨_, h3⟩
   rw [(Qf _).2, h2] at h3; omega
  have hg := Sd (by rw [(Qf _).2]; exact h1) hz
  refine ⟨hg.1, ?_⟩
  rw [hg.2, (Qf _).1, (Qf _).2, h2]
  simp [zi]; omega
 ·rw [fmtI_pos hx]
  have hp : Ua (Nr x.natAbs) = false ∧ Mm (Nr x.natAbs) = Nr x.natAbs := by
   cases hc : Nr x.natAbs with
   | nil => exact pneg_nil
   | cons b t =>
    refine pneg_cons_no ?_
    rintro rfl
    have := decS_isD x.natAbs 45 (by rw [hc]; exact List.mem_cons_self ..)
    simp at this
  have hg := Sd (l := Nr x.natAbs) (by rw [hp.2]; exact h1) (by rintro ⟨h3, _⟩; rw [hp.1] at h3; cases h3)
  refine ⟨hg.1, ?_⟩
  rw [hg.2, hp.1, hp.2, h2]
  simp [zi]; omega
theorem Qg {x : Int} {k : Nat} (hk : 1 ≤ k) (h : x.natAbs < pw k) : (K6 x).length ≤ 10 * k + 1 := by
 have := decS_len hk h
 unfold K6
 split
 ·rw [List.length_cons]; omega
 ·omega
theorem fmtI_one : K6 1 = [49] := by decide +kernel
theorem fmtI_one_of {d : Nat} (h : K6 (d : Int) = [49]) : d = 1 := by
 have h1 : Nr ((d : Int)).natAbs = [49] := by rw [← fmtI_pos (by omega : ¬ (d : Int) < 0)]; exact h
 have h2 := (parse_fmtI (x := (d : Int)) (by rw [h1]; decide)).2
 have h3 := (parse_fmtI (x := 1) (by decide +kernel)).2
 rw [fmtI_one] at h3
 rw [h, h3] at h2
 omega
def Ki (q : Rat) : List UInt8 := if q.den = 1 then K6 q.num else K6 q.num ++ 47 :: K6 q.den
section
variable {w : World} {a b : RV} {q p : Rat} {K K1 : Nat} {l : List UInt8}
theorem T4 (x : List UInt8) : (⟨x.toArray⟩ : ByteArray).toList = x := ByteArray.toList_mk x
theorem Rp (ha : X8 a q K w) (hK : 2 ≤ K ∧ K ≤ 1000) : Calls Tryz.prog 73 #[a.val] w (K5 w (fun _ : Unit => K3 (Ki q)) fun _ _ => True) := by
 refine K0.enter Tryz.func73 rfl ?_
 refine ZR ?_
 refine ZC (fun w1 hw h => M0 (ha.below hw) Zo) fun n => ?_
 refine ZC (fun w1 hw h => iformat_m h.2.1.i Zo) fun s => ?_
 refine ZC (fun w1 hw h => Yv 1 w1 Zd Zd) fun o => ?_
 refine ZC (fun w1 hw h => icmp_m h.1.1.2.2.i h.2.i Zo) fun c => ?_
 by_cases hd : q.den = 1
 ·have e1 : Ki q = K6 q.num := if_pos hd
  rw [e1]
  refine ZJ (Q0 ((q.den : Int) - 1) != 0) false (by rw [hd]; rfl) ?_
  exact ZW (K3 (K6 q.num))
 ·have e1 : Ki q = K6 q.num ++ 47 :: K6 q.den := if_neg hd
  rw [e1]
  refine ZJ (Q0 ((q.den : Int) - 1) != 0) true (by show (!(Q0 ((q.den : Int) - 1) == 0)) = true; rw [Xj, decide_eq_false Zo]; rfl) ?_
  refine ZD 4 (fun w1 hw h => iformat_m h.1.1.1.2.2.i Zo) fun t => ?_
  refine K0.ask (S3 .add 9 (.const (.string ⟨#[47]⟩)) (.tmp 17) (K3 [47]) (K3 (K6 q.den))) (K3 ([47] ++ K6 q.den)) Zk (fun w1 hw h => Ld (by have := Qg (k := K) Zo h.1.1.1.1.2.2.i.lt; simp; omega)) ?_
  refine ZS 5 ?_
  refine ZA (S3 .add 9 (.tmp 14) (.tmp 18) (K3 (K6 q.num)) (K3 ([47] ++ K6 q.den))) (K3 (K6 q.num ++ 47 :: K6 q.den)) (fun w1 hw h => Ld (by have := Qg (k := K) Zo h.1.1.1.1.2.2.i.lt; have := Qg (k := K) Zo h.1.1.1.1.2.1.i.lt; simp; omega)) ?_
  exact ZW (K3 (K6 q.num ++ 47 :: K6 q.den))
theorem Rr (ha : X8 a q K w) (hK : 2 ≤ K ∧ K ≤ 1000) : Calls Tryz.prog 87 #[a.val] w (K5 w (fun _ : Unit => K3 (Ki q)) fun _ _ => True) := by
 refine K0.enter Tryz.func87 rfl ?_
 refine ZR ?_
 refine ZC (fun w1 hw h => Lg (ha.below hw) Zo) fun n => ?_
 refine ZC (fun w1 hw h => rformat_m h.2.1.i Zo) fun s => ?_
 refine ZC (fun w1 hw h => rformat_m h.1.2.2.i Zo) fun t => ?_
 by_cases hd : q.den = 1
 ·have e1 : Ki q = K6 q.num := if_pos hd
  rw [e1]
  refine ZJ ((⟨(K6 q.den).toArray⟩ : ByteArray).toList == (⟨#[49]⟩ : ByteArray).toList) true (by rw [T4, hd]; show (K6 1 == _) = true; rw [fmtI_one]; exact beq_iff_eq.2 (T4 [49]).symm) ?_
  exact ZW (K3 (K6 q.num))
 ·have e1 : Ki q = K6 q.num ++ 47 :: K6 q.den := if_neg hd
  rw [e1]
  have hne : ((⟨(K6 q.den).toArray⟩ : ByteArray).toList == (⟨#[49]⟩ : ByteArray).toList) = false := by
   rw [T4, show (⟨#[49]⟩ : ByteArray).toList = [49] from T4 [49], beq_eq_false_iff_ne]
   exact fun e => hd (fmtI_one_of e)
  refine K0.condr ((⟨(K6 q.den).toArray⟩ : ByteArray).toList == (⟨#[49]⟩ : ByteArray).toList) false Zk (hne) ?_
  refine ZS 1 ?_
  refine K0.ask (S3 .add 9 (.tmp 17) (.const (.string ⟨#[47]⟩)) (K3 (K6 q.num)) (K3 [47])) (K3 (K6 q.num ++ [47])) Zk (fun w1 hw h => Ld (by have := Qg (k := K) Zo h.1.1.2.1.i.lt; simp; omega)) ?_
  refine ZS 3 ?_
  refine ZA (S3 .add 9 (.tmp 18) (.tmp 19) (K3 (K6 q.num ++ [47])) (K3 (K6 q.den))) (K3 (K6 q.num ++ [47] ++ K6 q.den)) (fun w1 hw h => Ld (by have := Qg (k := K) Zo h.1.1.2.2.i.lt; have := Qg (k := K) Zo h.1.1.2.1.i.lt; simp; omega)) ?_
  exact ZX (K3 (K6 q.num ++ [47] ++ K6 q.den)) (by rw [List.append_assoc]; rfl)
end
end Go.Proofs.YtdeepdckmhpldaaGreatDoor
