/-
 Numbers as text.
-/
import Derived.Test.YtncodmhgfkailaaGreatDoorAIx
import Derived.Test.YtncodmhgfkailaaGreatDoorAO
namespace Go.Proofs.YtncodmhgfkailaaGreatDoor
set_option maxRecDepth 100000
set_option maxHeartbeats 8000000
set_option linter.unusedVariables false
set_option linter.unusedSimpArgs false
open Go.RowKit
section
variable {w : World} {a b : RV} {K K1 : Nat} {l : List UInt8}
def L9 : List UInt8 → List UInt8 × List UInt8 × Bool
 | [] => ([], [], false)
 | b :: l => if b = 47 then ([], l, true) else (b :: (L9 l).1, (L9 l).2.1, (L9 l).2.2)
theorem cutL_none : ∀ {l : List UInt8}, (L9 l).2.2 = false → (L9 l).1 = l ∧ (L9 l).2.1 = []
 | [], _ => ⟨rfl, rfl⟩
 | b :: l, h => by
  unfold L9 at h ⊢
  split at h
  ·cases h
  ·rename_i hb
   have := cutL_none (l := l) h
   rw [if_neg hb]
   exact ⟨by rw [this.1], this.2⟩
theorem lib_cut : ∀ (l : List UInt8), Lib.cut l [47] = L9 l
 | [] => rfl
 | b :: l => by
  have ih := lib_cut l
  have hge := Lib.index_ge l [47]
  unfold Lib.cut at ih ⊢
  unfold L9
  rw [Lib.index]
  by_cases hb : b = 47
  ·subst hb
   simp
  ·have hp : [47].isPrefixOf (b :: l) = false := by
    simp only [List.isPrefixOf, Bool.and_true]
    exact beq_eq_false_iff_ne.2 (Ne.symm hb)
   rw [hp, if_neg hb, ← ih]
   by_cases h1 : Lib.index l [47] = -1
   ·rw [h1]; rfl
   ·obtain ⟨k, hk⟩ : ∃ k : Nat, Lib.index l [47] = k := ⟨(Lib.index l [47]).toNat, by omega⟩
    rw [hk]
    have e1 : ((k : Int) == -1) = false := beq_eq_false_iff_ne.2 Zo
    rw [e1]
    have e2 : ((k : Int) + 1).toNat = k + 1 := by omega
    have e3 : ((k : Int)).toNat = k := by omega
    simp only [Bool.false_eq_true, if_false, if_pos (show (0 : Int) ≤ (k : Int) + 1 by omega), if_pos (show (0 : Int) ≤ (k : Int) by omega), e2, e3, List.take_succ_cons, List.length_singleton, List.drop_succ_cons]
def ML (w : World) : Prop := ∃ m, w.cell? ⟨1, 0, none⟩ = some (.int .i64 m)
theorem ML.below {w w' : World} (h : ML w) (hb : Below w.heap.size w w') : ML w' := by obtain ⟨m, hm⟩ := h; exact ⟨m, Mw hb hm⟩
theorem cut_m (hM : ML w) (hl : l.length < 4294967281) : Calls Tryz.prog 136 #[K4 l, .string ⟨#[47]⟩] w (K5 w (fun _ : Unit => .tuple #[K4 (L9 l).1, K4 (L9 l).2.1, .bool (L9 l).2.2]) fun _ _ => True) := by
 obtain ⟨m, hm⟩ := hM
 refine (Tryz.strings_Cut ⟨l.toArray⟩ ⟨#[47]⟩ m w hl hm).mono fun e w' h => ?_
 obtain ⟨he, n, hw⟩ := h
 refine ⟨(), ?_, by rw [hw]; exact Lp (Below.refl _ _) n, fun _ _ _ => trivial⟩
 have hc := lib_cut l
 rw [he]
 show Ending.returned (Value.tuple #[K4 (Lib.cut l [47]).1, K4 (Lib.cut l [47]).2.1, .bool (Lib.cut l [47]).2.2]) = _
 rw [hc]
def piE (l : List UInt8) : Int := if Ke l = 0 then (if fitB (Kd l) then 0 else 6) else Ke l
def piV (l : List UInt8) : Int := if piE l = 0 then Kd l else 0
theorem piE_bad (h : Ke l ≠ 0) : piE l = Ke l ∧ piV l = 0 := by
 have h1 : piE l = Ke l := if_neg h
 exact ⟨h1, by unfold piV; rw [if_neg (by rw [h1]; exact h)]⟩
theorem piE_far (h : Ke l = 0) (h2 : fitB (Kd l) = false) : piE l = 6 ∧ piV l = 0 := by
 have h1 : piE l = 6 := by unfold piE; rw [if_pos h, h2]; rfl
 exact ⟨h1, by unfold piV; rw [if_neg (by rw [h1]; decide)]⟩
theorem piE_good (h : Ke l = 0) (h2 : fitB (Kd l) = true) : piE l = 0 ∧ piV l = Kd l ∧ toV (Kd l) = Kd l := by
 have h1 : piE l = 0 := by unfold piE; rw [if_pos h, h2]; rfl
 exact ⟨h1, by unfold piV; rw [if_pos h1], by unfold toV; rw [h2]; rfl⟩
theorem itoInt_v {v : SV} {x : Int} {B : Bool} (hB : fitB x = B) (ia : O1 v x K w) (hK : K ≤ 274877906944) : Calls Tryz.prog 293 #[v.val] w (K5 w (fun _ : Unit => .tuple #[.int .i64 (toV x), .bool B]) fun _ _ => True) := by subst hB; exact itoInt_m ia hK
theorem rtoInt_v {v : SV} {x : Int} {B : Bool} (hB : fitB x = B) (ia : O1 v x K w) (hK : K ≤ 274877906944) : Calls Tryz.prog 251 #[v.val] w (K5 w (fun _ : Unit => .tuple #[.int .i64 (toV x), .bool B]) fun _ _ => True) := by subst hB; exact rtoInt_m ia hK
theorem xparseInt_m (hL : l.length ≤ 9223372036854775807) : Calls Tryz.prog 256 #[K4 l] w (K5 w (fun _ : Unit => .tuple #[.int .i64 (piV l), .int .i64 (piE l)]) fun _ _ => True) := by
 refine K0.enter Tryz.func256 rfl ?_
 refine ZR ?_
 refine ZC (fun w1 hw h => iparse_m hL) fun v => ?_
 by_cases hE : Ke l = 0
 case neg =>
  obtain ⟨e1, e2⟩ := piE_bad hE
  rw [e1, e2]
  refine ZJ (Ke l != 0) true (by simpa using hE) ?_
  exact ZW (.tuple #[.int .i64 0, .int .i64 (Ke l)])
 refine ZJ (Ke l != 0) false (by rw [hE]; rfl) ?_
 cases hF : fitB (Kd l)
 ·obtain ⟨e1, e2⟩ := piE_far hE hF
  rw [e1, e2]
  refine ZC (fun w1 hw h => itoInt_v hF h.2.i Zd) fun u => ?_
  refine ZI true ?_
  exact ZW (.tuple #[.int .i64 0, .int .i64 6])
 ·obtain ⟨e1, e2, e3⟩ := piE_good hE hF
  rw [e1, e2]
  refine ZC (fun w1 hw h => itoInt_v hF h.2.i Zd) fun u => ?_
  refine ZI false ?_
  exact ZX (.tuple #[.int .i64 (toV (Kd l)), .int .i64 0]) (by rw [e3])
theorem rparseInt_m (hL : l.length ≤ 9223372036854775807) : Calls Tryz.prog 200 #[K4 l] w (K5 w (fun _ : Unit => .tuple #[.int .i64 (piV l), .int .i64 (piE l)]) fun _ _ => True) := by
 refine K0.enter Tryz.func200 rfl ?_
 refine ZR ?_
 refine ZC (fun w1 hw h => rparse_m hL) fun v => ?_
 by_cases hE : Ke l = 0
 case neg =>
  obtain ⟨e1, e2⟩ := piE_bad hE
  rw [e1, e2]
  refine ZJ (Ke l != 0) true (by simpa using hE) ?_
  exact ZW (.tuple #[.int .i64 0, .int .i64 (Ke l)])
 refine ZJ (Ke l != 0) false (by rw [hE]; rfl) ?_
 cases hF : fitB (Kd l)
 ·obtain ⟨e1, e2⟩ := piE_far hE hF
  rw [e1, e2]
  refine ZC (fun w1 hw h => rtoInt_v hF h.2.i Zd) fun u => ?_
  refine ZI true ?_
  exact ZW (.tuple #[.int .i64 0, .int .i64 6])
 ·obtain ⟨e1, e2, e3⟩ := piE_good hE hF
  rw [e1, e2]
  refine ZC (fun w1 hw h => rtoInt_v hF h.2.i Zd) fun u => ?_
  refine ZI false ?_
  exact ZX (.tuple #[.int .i64 (toV (Kd l)), .int .i64 0]) (by rw [e3])
def Pd (l : List UInt8) (lo hi : Int) : Int := if piE l = 0 then (if piV l < lo ∨ hi < piV l then 6 else 0) else piE l
def prgV (l : List UInt8) (lo hi : Int) : Int := if Pd l lo hi = 0 then piV l else 0
theorem xparseRange_m {lo hi : Int} (hL : l.length ≤ 9223372036854775807) : Calls Tryz.prog 246 #[K4 l, .int .i64 lo, .int .i64 hi] w (K5 w (fun _ : Unit => .tuple #[.int .i64 (prgV l lo hi), .int .i64 (Pd l lo hi)]) fun _ _ => True) := by
 refine K0.enter Tryz.func246 rfl ?_
 refine ZR ?_
 refine ZC (fun w1 hw h => xparseInt_m hL) fun v => ?_
 by_cases hE : piE l = 0
 case neg =>
  have e1 : Pd l lo hi = piE l := if_neg hE
  have e2 : prgV l lo hi = 0 := by unfold prgV; rw [if_neg (by rw [e1]; exact hE)]
  rw [e1, e2]
  refine ZJ (piE l != 0) true (by simpa using hE) ?_
  exact ZW (.tuple #[.int .i64 0, .int .i64 (piE l)])
 refine K0.condr (piE l != 0) false Zk (by rw [hE]; rfl) ?_
 refine ZS 3 ?_
 by_cases hlo : piV l < lo
 ·have e1 : Pd l lo hi = 6 := by unfold Pd; rw [if_pos hE, if_pos (.inl hlo)]
  have e2 : prgV l lo hi = 0 := by unfold prgV; rw [if_neg (by rw [e1]; decide)]
  rw [e1, e2]
  refine ZT 22 (.bool (decide (piV l < lo))) (.bool true) (by rw [decide_eq_true hlo]) ?_
  refine ZI true ?_
  exact ZW (.tuple #[.int .i64 0, .int .i64 6])
 refine ZT 22 (.bool (decide (piV l < lo))) (.bool false) (by rw [decide_eq_false hlo]) ?_
 by_cases hhi : hi < piV l
 ·have e1 : Pd l lo hi = 6 := by unfold Pd; rw [if_pos hE, if_pos (.inr hhi)]
  have e2 : prgV l lo hi = 0 := by unfold prgV; rw [if_neg (by rw [e1]; decide)]
  rw [e1, e2]
  refine ZJ (decide (piV l > hi)) true (decide_eq_true hhi) ?_
  exact ZW (.tuple #[.int .i64 0, .int .i64 6])
 ·have e1 : Pd l lo hi = 0 := by unfold Pd; rw [if_pos hE, if_neg Zo]
  have e2 : prgV l lo hi = piV l := by unfold prgV; rw [if_pos e1]
  rw [e1, e2]
  refine ZJ (decide (piV l > hi)) false (decide_eq_false hhi) ?_
  exact ZW (.tuple #[.int .i64 (piV l), .int .i64 0])
theorem M3 {n : Int} (h1 : -9223372036854775808 ≤ n) (h2 : n ≤ 9223372036854775807) : Calls Tryz.prog 36 #[.int .i64 n] w (K5 w (fun _ : Unit => K4 (K7 n)) fun _ _ => True) := by
 refine K0.enter Tryz.func36 rfl ?_
 refine ZR ?_
 refine ZC (fun w1 hw h => fromInt_m n w1 h1 h2) fun v => ?_
 refine ZC (fun w1 hw h => iformat_m h.2.i Zd) fun u => ?_
 exact ZW (K4 (K7 n))
theorem Pb {n : Int} (h1 : -9223372036854775808 ≤ n) (h2 : n ≤ 9223372036854775807) : Calls Tryz.prog 66 #[.int .i64 n] w (K5 w (fun _ : Unit => K4 (K7 n)) fun _ _ => True) := by
 refine K0.enter Tryz.func66 rfl ?_
 refine ZR ?_
 refine ZC (fun w1 hw h => rfromInt_m n w1 h1 h2) fun v => ?_
 refine ZC (fun w1 hw h => rformat_m h.2.i Zd) fun u => ?_
 exact ZW (K4 (K7 n))
end
theorem cutL_at : ∀ {l : List UInt8} {k : Nat}, (∀ i, i < k → l[i]? ≠ some 47) → l[k]? = some 47 → L9 l = (l.take k, l.drop (k + 1), true)
 | [], k, _, h => by simp at h
 | b :: l, 0, _, h => by
  have hb : b = 47 := by simpa using h
  unfold L9
  rw [if_pos hb]
  rfl
 | b :: l, k + 1, h1, h2 => by
  have hb : b ≠ 47 := by have := h1 0 Zo; simpa using this
  have ih := cutL_at (l := l) (k := k) (fun i hi => by have := h1 (i + 1) Zo; simpa using this) (by simpa using h2)
  unfold L9
  rw [if_neg hb, ih]
  rfl
theorem cutL_no : ∀ {l : List UInt8}, (∀ i, i < l.length → l[i]? ≠ some 47) → L9 l = (l, [], false)
 | [], _ => rfl
 | b :: l, h => by
  have hb : b ≠ 47 := by have := h 0 Zs; simpa using this
  have ih := cutL_no (l := l) (fun i hi => by have := h (i + 1) (by simpa using hi); simpa using this)
  unfold L9
  rw [if_neg hb, ih]
def slI (l : List UInt8) : Int := if (L9 l).2.2 then ((L9 l).1.length : Int) else -1
section
variable {w : World} {l : List UInt8}
theorem slash_m (hL : l.length ≤ 9223372036854775807) : Calls Tryz.prog 287 #[K4 l] w (K5 w (fun _ : Unit => .int .i64 (slI l)) fun _ _ => True) := by
 refine K0.enter Tryz.func287 rfl ?_
 refine ZR ?_
 refine K0.loop (ι := {k : Nat // k ≤ l.length ∧ ∀ i, i < k → l[i]? ≠ some 47}) 15 (fun q => ⟨[(0, .v (K4 l)), (2, .v (.int .i64 0)), (3, .v (.int .i64 q.1))], []⟩) (fun _ _ => True) (fun q => l.length - q.1) (⟨0, by omega, by omega⟩) Zk (fun _ => by kernel_rfl) ⟨Zk, Zk, Zk⟩ (fun _ _ => trivial) ?_
 rintro ⟨k, hk, hkd⟩ g
 by_cases hlt : k < l.length
 ·
  refine ZR ?_
  refine K0.condr (decide ((k : Int) < (l.length : Int))) true Zk Zp ?_
  refine ZS 2 ?_
  obtain ⟨b, hb⟩ : ∃ b, l[k]? = some b := ⟨_, List.getElem?_eq_getElem hlt⟩
  refine ZA (ixS 9 (K4 l) k) (.int .u8 b.toNat) (fun w1 hw h => Lg Zk hb) ?_
  by_cases h47 : b = 47
  ·
   refine ZJ (((b.toNat : Nat) : Int) == 47) true (by rw [h47]; rfl) ?_
   refine K0.leave Zk ?_
   refine ZR ?_
   exact ZX (.int .i64 k) (by unfold slI; rw [cutL_at hkd (by rw [hb, h47]), if_pos rfl]; simp; omega)
  ·
   refine ZJ (((b.toNat : Nat) : Int) == 47) false (by simp; intro e; apply h47; apply UInt8.toNat_inj.1; show b.toNat = 47; omega) ?_
   refine K0.slot 3 (.int .i64 (IntKind.i64.wrap ((k : Int) + 1))) (.int .i64 ((k + 1 : Nat) : Int)) Zk (by rw [Kf hlt hL]) ?_
   refine K0.next (⟨k + 1, by omega, by intro i hi; by_cases e : i = k; rw [e, hb]; simpa using h47; exact hkd i Zo⟩) Zk (by show l.length - (k + 1) < l.length - k; omega) ⟨Zk, Zk, Zk⟩ (fun _ _ => trivial)
 ·
  refine ZR ?_
  refine ZJ (decide ((k : Int) < (l.length : Int))) false Zp ?_
  refine K0.leave Zk ?_
  refine ZR ?_
  have hkn : k = l.length := by omega
  subst hkn
  exact ZX (.int .i64 (-1)) (by unfold slI; rw [cutL_no hkd]; rfl)
end
theorem fmtI_parse {l : List UInt8} (h : Ke l = 0) : K7 (Kd l) = l := by
 have h0 : Ks (M1 l) = 0 := by
  rcases Classical.em (Ks (M1 l) = 0) with e | e
  ·exact e
  ·have := (parseI_bad e).1; rw [h] at this; exact absurd this.symm e
 by_cases hz : pneg l = true ∧ M9 (M1 l) = 0
 ·have := (parseI_zero h0 hz.1 hz.2).1
  rw [h] at this; cases this
 ·rw [(Og h0 hz).2]
  obtain ⟨h2, h3, _, _⟩ := decS_parse h0
  cases l with
  | nil => rw [pneg_nil.1, pneg_nil.2] at *; rw [fmtI_pos (by simp [zi])]; exact h2
  | cons b t =>
   by_cases e : b = 45
   ·subst e
    rw [(Nf t).1, (Nf t).2] at *
    have hv : M9 t ≠ 0 := fun e => hz ⟨rfl, e⟩
    rw [fmtI_neg (by simp [zi]; omega), zi_abs, h2]
   ·rw [(Qr e).1, (Qr e).2] at *
    rw [fmtI_pos (by simp [zi]), zi_abs, h2]
theorem parse_fmtI {x : Int} (h : (Nc x.natAbs).length ≤ 1000) : Ke (K7 x) = 0 ∧ Kd (K7 x) = x := by
 obtain ⟨h1, h2⟩ := parse_decS h
 by_cases hx : x < 0
 ·rw [fmtI_neg hx]
  have hz : ¬ (pneg (45 :: Nc x.natAbs) = true ∧ M9 (M1 (45 :: Nc x.natAbs)) = 0) := by
   rintro ⟨_, h3⟩
   rw [(Nf _).2, h2] at h3; omega
  have hg := Og (by rw [(Nf _).2]; exact h1) hz
  refine ⟨hg.1, ?_⟩
  rw [hg.2, (Nf _).1, (Nf _).2, h2]
  simp [zi]; omega
 ·rw [fmtI_pos hx]
  have hp : pneg (Nc x.natAbs) = false ∧ M1 (Nc x.natAbs) = Nc x.natAbs := by
   cases hc : Nc x.natAbs with
   | nil => exact pneg_nil
   | cons b t =>
    refine Qr ?_
    rintro rfl
    have := decS_isD x.natAbs 45 (by rw [hc]; exact List.mem_cons_self ..)
    simp at this
  have hg := Og (l := Nc x.natAbs) (by rw [hp.2]; exact h1) (by rintro ⟨h3, _⟩; rw [hp.1] at h3; cases h3)
  refine ⟨hg.1, ?_⟩
  rw [hg.2, hp.1, hp.2, h2]
  simp [zi]; omega
theorem Qu {x : Int} {k : Nat} (hk : 1 ≤ k) (h : x.natAbs < pw k) : (K7 x).length ≤ 10 * k + 1 := by
 have := decS_len hk h
 unfold K7
 split
 ·rw [List.length_cons]; omega
 ·omega
theorem fmtI_one : K7 1 = [49] := by decide +kernel
theorem fmtI_one_of {d : Nat} (h : K7 (d : Int) = [49]) : d = 1 := by
 have h1 : Nc ((d : Int)).natAbs = [49] := by rw [← fmtI_pos (by omega : ¬ (d : Int) < 0)]; exact h
 have h2 := (parse_fmtI (x := (d : Int)) (by rw [h1]; decide)).2
 have h3 := (parse_fmtI (x := 1) (by decide +kernel)).2
 rw [fmtI_one] at h3
 rw [h, h3] at h2
 omega
def Kk (q : Rat) : List UInt8 := if q.den = 1 then K7 q.num else K7 q.num ++ 47 :: K7 q.den
section
variable {w : World} {a b : RV} {q p : Rat} {K K1 : Nat} {l : List UInt8}
theorem mk_toList (x : List UInt8) : (⟨x.toArray⟩ : ByteArray).toList = x := ByteArray.toList_mk x
theorem xformatQ_m (ha : IsQ a q K w) (hK : 2 ≤ K ∧ K ≤ 1000) : Calls Tryz.prog 115 #[a.val] w (K5 w (fun _ : Unit => K4 (Kk q)) fun _ _ => True) := by
 refine K0.enter Tryz.func115 rfl ?_
 refine ZR ?_
 refine ZC (fun w1 hw h => Lq (ha.below hw) Zo) fun n => ?_
 refine ZC (fun w1 hw h => iformat_m h.2.1.i Zo) fun s => ?_
 refine ZC (fun w1 hw h => fromInt_m 1 w1 Zd Zd) fun o => ?_
 refine ZC (fun w1 hw h => icmp_m h.1.1.2.2.i h.2.i Zo) fun c => ?_
 by_cases hd : q.den = 1
 ·have e1 : Kk q = K7 q.num := if_pos hd
  rw [e1]
  refine ZJ (Ny ((q.den : Int) - 1) != 0) false (by rw [hd]; rfl) ?_
  exact ZW (K4 (K7 q.num))
 ·have e1 : Kk q = K7 q.num ++ 47 :: K7 q.den := if_neg hd
  rw [e1]
  refine ZJ (Ny ((q.den : Int) - 1) != 0) true (by show (!(Ny ((q.den : Int) - 1) == 0)) = true; rw [Pr, decide_eq_false Zo]; rfl) ?_
  refine ZD 4 (fun w1 hw h => iformat_m h.1.1.1.2.2.i Zo) fun t => ?_
  refine K0.ask (Ov .add 9 (.const (.string ⟨#[47]⟩)) (.tmp 17) (K4 [47]) (K4 (K7 q.den))) (K4 ([47] ++ K7 q.den)) Zk (fun w1 hw h => N8 (by have := Qu (k := K) Zo h.1.1.1.1.2.2.i.lt; simp; omega)) ?_
  refine ZS 5 ?_
  refine ZA (Ov .add 9 (.tmp 14) (.tmp 18) (K4 (K7 q.num)) (K4 ([47] ++ K7 q.den))) (K4 (K7 q.num ++ 47 :: K7 q.den)) (fun w1 hw h => N8 (by have := Qu (k := K) Zo h.1.1.1.1.2.2.i.lt; have := Qu (k := K) Zo h.1.1.1.1.2.1.i.lt; simp; omega)) ?_
  exact ZW (K4 (K7 q.num ++ 47 :: K7 q.den))
theorem rformatQ_m (ha : IsQ a q K w) (hK : 2 ≤ K ∧ K ≤ 1000) : Calls Tryz.prog 133 #[a.val] w (K5 w (fun _ : Unit => K4 (Kk q)) fun _ _ => True) := by
 refine K0.enter Tryz.func133 rfl ?_
 refine ZR ?_
 refine ZC (fun w1 hw h => Le (ha.below hw) Zo) fun n => ?_
 refine ZC (fun w1 hw h => rformat_m h.2.1.i Zo) fun s => ?_
 refine ZC (fun w1 hw h => rformat_m h.1.2.2.i Zo) fun t => ?_
 by_cases hd : q.den = 1
 ·have e1 : Kk q = K7 q.num := if_pos hd
  rw [e1]
  refine ZJ ((⟨(K7 q.den).toArray⟩ : ByteArray).toList == (⟨#[49]⟩ : ByteArray).toList) true (by rw [mk_toList, hd]; show (K7 1 == _) = true; rw [fmtI_one]; exact beq_iff_eq.2 (mk_toList [49]).symm) ?_
  exact ZW (K4 (K7 q.num))
 ·have e1 : Kk q = K7 q.num ++ 47 :: K7 q.den := if_neg hd
  rw [e1]
  have hne : ((⟨(K7 q.den).toArray⟩ : ByteArray).toList == (⟨#[49]⟩ : ByteArray).toList) = false := by
   rw [mk_toList, show (⟨#[49]⟩ : ByteArray).toList = [49] from mk_toList [49], beq_eq_false_iff_ne]
   exact fun e => hd (fmtI_one_of e)
  refine K0.condr ((⟨(K7 q.den).toArray⟩ : ByteArray).toList == (⟨#[49]⟩ : ByteArray).toList) false Zk (hne) ?_
  refine ZS 1 ?_
  refine K0.ask (Ov .add 9 (.tmp 17) (.const (.string ⟨#[47]⟩)) (K4 (K7 q.num)) (K4 [47])) (K4 (K7 q.num ++ [47])) Zk (fun w1 hw h => N8 (by have := Qu (k := K) Zo h.1.1.2.1.i.lt; simp; omega)) ?_
  refine ZS 3 ?_
  refine ZA (Ov .add 9 (.tmp 18) (.tmp 19) (K4 (K7 q.num ++ [47])) (K4 (K7 q.den))) (K4 (K7 q.num ++ [47] ++ K7 q.den)) (fun w1 hw h => N8 (by have := Qu (k := K) Zo h.1.1.2.2.i.lt; have := Qu (k := K) Zo h.1.1.2.1.i.lt; simp; omega)) ?_
  exact ZX (K4 (K7 q.num ++ [47] ++ K7 q.den)) (by rw [List.append_assoc]; rfl)
def pqN (l : List UInt8) : Int := Kd (L9 l).1
def pqD (l : List UInt8) : Int := if (L9 l).2.2 then Kd (L9 l).2.1 else 1
def pqE (l : List UInt8) : Int :=
 if Ke (L9 l).1 = 0 then
  if (L9 l).2.2 = true ∧ Ke (L9 l).2.1 ≠ 0 then Ke (L9 l).2.1
  else if (L9 l).2.2 = true ∧ pqD l < 2 then 3
  else if (Rat.divInt (pqN l) (pqD l)).num = pqN l ∧ ((Rat.divInt (pqN l) (pqD l)).den : Int) = pqD l then 0 else 3
 else Ke (L9 l).1
def pqV (l : List UInt8) : Rat := Rat.divInt (pqN l) (pqD l)
def OutQ (r : RV) (e : Int) (q : Rat) (K : Nat) (u : World) : Prop := if e = 0 then Mh r q K u else r = RV0
theorem outQ0 {e : Int} (h : e ≠ 0) : OutQ RV0 e q K w := by unfold OutQ; rw [if_neg h]
theorem outQn {r : RV} {e : Int} (h : e = 0) (k : Mh r q K w) : OutQ r e q K w := by unfold OutQ; rw [if_pos h]; exact k
theorem OutQ.n {r : RV} {e : Int} (k : OutQ r e q K w) (h : e = 0) : Mh r q K w := by unfold OutQ at k; rw [if_pos h] at k; exact k
theorem OutQ.z {r : RV} {e : Int} (k : OutQ r e q K w) (h : e ≠ 0) : r = RV0 := by unfold OutQ at k; rw [if_neg h] at k; exact k
theorem cutL_len : ∀ (l : List UInt8), (L9 l).1.length ≤ l.length ∧ (L9 l).2.1.length ≤ l.length
 | [] => ⟨Nat.le_refl _, Nat.le_refl _⟩
 | b :: l => by
  have := cutL_len l
  unfold L9
  split
  ·simp
  ·simp only [List.length_cons]; omega
end
section
variable {w : World} {r : RV} {K K1 : Nat} {l : List UInt8}
theorem parse_one : Ke [49] = 0 ∧ Kd [49] = 1 := by
 have h3 := parse_fmtI (x := 1) (by decide +kernel)
 rw [fmtI_one] at h3
 exact h3
theorem isnQ_d {x y : Int} (hx : R1 r.a x K w) (hy : R1 r.b y K1 w) (h : y ≠ 0) : isnQ r x y = decide ((Rat.divInt x y).num = x ∧ ((Rat.divInt x y).den : Int) = y) := by
 unfold isnQ
 rw [isn_n2 hx, isn_n2 hy, decide_eq_true h, Bool.true_and, Bool.true_and, Bool.true_and]
 have e1 : decide (x = (Rat.divInt x y).num) = decide ((Rat.divInt x y).num = x) := decide_eq_decide.2 eq_comm
 have e2 : decide (y = ((Rat.divInt x y).den : Int)) = decide (((Rat.divInt x y).den : Int) = y) := decide_eq_decide.2 eq_comm
 rw [e1, e2, Bool.decide_and]
theorem qn_of {x y : Int} (h : (Rat.divInt x y).num = x ∧ ((Rat.divInt x y).den : Int) = y) (hx : R1 r.a x K w) (hy : R1 r.b y K w) : Mh r (Rat.divInt x y) K w := ⟨hx.cast h.1.symm, hy.cast h.2.symm⟩
theorem cut_v {B : Bool} (hB : (L9 l).2.2 = B) (hM : ML w) (hl : l.length < 4294967281) : Calls Tryz.prog 136 #[K4 l, .string ⟨#[47]⟩] w (K5 w (fun _ : Unit => .tuple #[K4 (L9 l).1, K4 (L9 l).2.1, .bool B]) fun _ _ => True) := by subst hB; exact cut_m hM hl
theorem pq_e1 (h : Ke (L9 l).1 ≠ 0) : pqE l = Ke (L9 l).1 := if_neg h
theorem pq_e2 (h : Ke (L9 l).1 = 0) (h2 : (L9 l).2.2 = true) (h3 : Ke (L9 l).2.1 ≠ 0) : pqE l = Ke (L9 l).2.1 := by unfold pqE; rw [if_pos h, if_pos ⟨h2, h3⟩]
theorem pq_e3 (h : Ke (L9 l).1 = 0) (h2 : (L9 l).2.2 = true) (h3 : Ke (L9 l).2.1 = 0) (h4 : Kd (L9 l).2.1 < 2) : pqE l = 3 := by
 unfold pqE pqD; rw [if_pos h, if_neg (fun q => q.2 h3), if_pos h2, if_pos ⟨h2, h4⟩]
theorem pq_e4 (h : Ke (L9 l).1 = 0) (h2 : (L9 l).2.2 = true → Ke (L9 l).2.1 = 0 ∧ 2 ≤ pqD l) : pqE l = if (Rat.divInt (pqN l) (pqD l)).num = pqN l ∧ ((Rat.divInt (pqN l) (pqD l)).den : Int) = pqD l then 0 else 3 := by
 unfold pqE; rw [if_pos h, if_neg (fun q => q.2 (h2 q.1).1), if_neg (fun q => by have := (h2 q.1).2; omega)]
theorem xparseQ_m (hM : ML w) (hL : l.length < 4294967281) : Calls Tryz.prog 195 #[K4 l] w (K5 w (fun r : RV => .tuple #[r.val, .int .i64 (pqE l)]) fun r u => OutQ r (pqE l) (pqV l) 125 u) := by
 have hlen := cutL_len l
 refine K0.enter Tryz.func195 rfl ?_
 refine ZR ?_
 by_cases h1 : Ke (L9 l).1 = 0
 case neg =>
  rw [pq_e1 h1]
  refine ZC (fun w1 hw h => cut_m (hM.below hw) hL) fun u => ?_
  refine ZC (fun w1 hw h => iparse_m (l := (L9 l).1) Zo) fun n => ?_
  refine ZJ (Ke (L9 l).1 != 0) true (by simpa using h1) ?_
  refine ZV (.tuple #[RV0.val, .int .i64 (Ke (L9 l).1)]) (fun w1 hw h => ⟨RV0, rfl, hw, fun w'' k1 k2 => outQ0 h1⟩)
 cases hP : (L9 l).2.2
 ·have hD : pqD l = 1 := by unfold pqD; rw [hP]; rfl
  have hE := pq_e4 h1 (by rw [hP]; intro h; cases h)
  refine ZC (fun w1 hw h => cut_v hP (hM.below hw) hL) fun u => ?_
  refine ZC (fun w1 hw h => iparse_m (l := (L9 l).1) Zo) fun n => ?_
  refine ZJ (Ke (L9 l).1 != 0) false (by rw [h1]; rfl) ?_
  refine ZC (fun w1 hw h => fromInt_m 1 w1 Zd Zd) fun d => ?_
  refine ZI false ?_
  by_cases hN : (Rat.divInt (pqN l) (pqD l)).num = pqN l ∧ ((Rat.divInt (pqN l) (pqD l)).den : Int) = pqD l
  ·rw [if_pos hN] at hE
   rw [hE]
   rw [hD] at hN
   refine ZC (fun w1 hw h => qisn_v (a := ⟨n, d⟩) (K := 125) (B := true) ((isnQ_d h.1.2 h.2 Zd).trans (decide_eq_true hN)) h.1.2.i (h.2.i.mono Zd) Zd) fun z => ?_
   refine ZI false ?_
   refine ZV (.tuple #[(RV.mk n d).val, .int .i64 0]) (fun w1 hw h => ⟨⟨n, d⟩, rfl, hw, fun w'' k1 k2 => outQn rfl (by unfold pqV; rw [hD]; exact qn_of hN (h w'' k1 k2).1.1.2 ((h w'' k1 k2).1.2.mono Zd))⟩)
  ·rw [if_neg hN] at hE
   rw [hE]
   rw [hD] at hN
   refine ZC (fun w1 hw h => qisn_v (a := ⟨n, d⟩) (K := 125) (B := false) ((isnQ_d h.1.2 h.2 Zd).trans (decide_eq_false hN)) h.1.2.i (h.2.i.mono Zd) Zd) fun z => ?_
   refine ZI true ?_
   refine ZV (.tuple #[RV0.val, .int .i64 3]) (fun w1 hw h => ⟨RV0, rfl, hw, fun w'' k1 k2 => outQ0 Zd⟩)
 refine ZC (fun w1 hw h => cut_v hP (hM.below hw) hL) fun u => ?_
 refine ZC (fun w1 hw h => iparse_m (l := (L9 l).1) Zo) fun n => ?_
 refine ZJ (Ke (L9 l).1 != 0) false (by rw [h1]; rfl) ?_
 refine ZC (fun w1 hw h => fromInt_m 1 w1 Zd Zd) fun d => ?_
 refine ZI true ?_
 refine ZC (fun w1 hw h => iparse_m (l := (L9 l).2.1) Zo) fun d => ?_
 by_cases h2 : Ke (L9 l).2.1 = 0
 case neg =>
  rw [pq_e2 h1 hP h2]
  refine ZJ (Ke (L9 l).2.1 != 0) true (by simpa using h2) ?_
  refine ZV (.tuple #[RV0.val, .int .i64 (Ke (L9 l).2.1)]) (fun w1 hw h => ⟨RV0, rfl, hw, fun w'' k1 k2 => outQ0 h2⟩)
 have hD : pqD l = Kd (L9 l).2.1 := by unfold pqD; rw [hP]; rfl
 have lt0 : ∀ y : Int, decide (Ny (y - 2) < 0) = decide (y < 2) := fun y => by rw [sgn_lt0]; exact decide_eq_decide.2 Zo
 refine ZJ (Ke (L9 l).2.1 != 0) false (by rw [h2]; rfl) ?_
 refine ZC (fun w1 hw h => fromInt_m 2 w1 Zd Zd) fun t => ?_
 refine ZC (fun w1 hw h => icmp_m h.1.2.i h.2.i Zd) fun c => ?_
 by_cases h3 : Kd (L9 l).2.1 < 2
 ·rw [pq_e3 h1 hP h2 h3]
  refine ZJ (decide (Ny (Kd (L9 l).2.1 - 2) < 0)) true (by rw [lt0]; exact decide_eq_true h3) ?_
  refine ZV (.tuple #[RV0.val, .int .i64 3]) (fun w1 hw h => ⟨RV0, rfl, hw, fun w'' k1 k2 => outQ0 Zd⟩)
 have hE := pq_e4 h1 (fun _ => ⟨h2, by omega⟩)
 refine ZJ (decide (Ny (Kd (L9 l).2.1 - 2) < 0)) false (by rw [lt0]; exact decide_eq_false h3) ?_
 by_cases hN : (Rat.divInt (pqN l) (pqD l)).num = pqN l ∧ ((Rat.divInt (pqN l) (pqD l)).den : Int) = pqD l
 ·rw [if_pos hN] at hE
  rw [hE]
  rw [hD] at hN
  refine ZC (fun w1 hw h => qisn_v (a := ⟨n, d⟩) (K := 125) (B := true) ((isnQ_d h.1.1.1.1.2 h.1.1.2 Zo).trans (decide_eq_true hN)) h.1.1.1.1.2.i h.1.1.2.i Zd) fun z => ?_
  refine ZI false ?_
  refine ZV (.tuple #[(RV.mk n d).val, .int .i64 0]) (fun w1 hw h => ⟨⟨n, d⟩, rfl, hw, fun w'' k1 k2 => outQn rfl (by unfold pqV; rw [hD]; exact qn_of hN (h w'' k1 k2).1.1.1.1.1.2 (h w'' k1 k2).1.1.1.2)⟩)
 ·rw [if_neg hN] at hE
  rw [hE]
  rw [hD] at hN
  refine ZC (fun w1 hw h => qisn_v (a := ⟨n, d⟩) (K := 125) (B := false) ((isnQ_d h.1.1.1.1.2 h.1.1.2 Zo).trans (decide_eq_false hN)) h.1.1.1.1.2.i h.1.1.2.i Zd) fun z => ?_
  refine ZI true ?_
  refine ZV (.tuple #[RV0.val, .int .i64 3]) (fun w1 hw h => ⟨RV0, rfl, hw, fun w'' k1 k2 => outQ0 Zd⟩)
theorem rparse_v {e : Int} (hE : Ke l = e) (hL : l.length ≤ 9223372036854775807) : Calls Tryz.prog 250 #[K4 l] w (K5 w (fun v : SV => .tuple #[v.val, .int .i64 e]) fun v u => R1 v (Kd l) 125 u) := by subst hE; exact rparse_m hL
theorem slash_v {s : Int} (hs : slI l = s) (hL : l.length ≤ 9223372036854775807) : Calls Tryz.prog 287 #[K4 l] w (K5 w (fun _ : Unit => .int .i64 s) fun _ _ => True) := by subst hs; exact slash_m hL
theorem cutL_yes : ∀ {l : List UInt8}, (L9 l).2.2 = true → (L9 l).1.length < l.length ∧ l.take (L9 l).1.length = (L9 l).1 ∧ l.drop ((L9 l).1.length + 1) = (L9 l).2.1
 | [], h => by cases h
 | b :: l, h => by
  unfold L9 at h ⊢
  split at h
  ·rename_i hb
   rw [if_pos hb]
   simp
  ·rename_i hb
   rw [if_neg hb]
   have := cutL_yes (l := l) h
   simp only [List.length_cons, List.take_succ_cons, List.drop_succ_cons]
   exact ⟨by omega, by rw [this.2.1], this.2.2⟩
theorem sgn_eq (x y : Int) : (Ny (x - y) != 0) = decide (x ≠ y) := by
 show (!(Ny (x - y) == 0)) = _
 rw [Pr]
 by_cases h : x = y
 ·rw [decide_eq_true Zo, decide_eq_false (by simpa using h)]; rfl
 ·rw [decide_eq_false Zo, decide_eq_true h]; rfl
theorem rparseQ_m (hL : l.length < 4294967281) : Calls Tryz.prog 249 #[K4 l] w (K5 w (fun r : RV => .tuple #[r.val, .int .i64 (pqE l)]) fun r u => OutQ r (pqE l) (pqV l) 125 u) := by
 have hlen := cutL_len l
 have lt0 : ∀ y : Int, decide (Ny (y - 2) < 0) = decide (y < 2) := fun y => by rw [sgn_lt0]; exact decide_eq_decide.2 Zo
 obtain ⟨A, hA⟩ : ∃ A, (L9 l).1 = A := ⟨_, rfl⟩
 obtain ⟨B, hB⟩ : ∃ B, (L9 l).2.1 = B := ⟨_, rfl⟩
 refine K0.enter Tryz.func249 rfl ?_
 refine ZR ?_
 cases hP : (L9 l).2.2
 ·have hs : slI l = -1 := by unfold slI; rw [hP]; rfl
  have hAl : (L9 l).1 = l := (cutL_none hP).1
  have hD : pqD l = 1 := by unfold pqD; rw [hP]; rfl
  by_cases h1 : Ke l = 0
  case neg =>
   rw [pq_e1 (by rw [hAl]; exact h1), hAl]
   refine ZC (fun w1 hw h => slash_v hs Zo) fun u => ?_
   refine ZJ (decide ((-1 : Int) ≥ 0)) false Zd ?_
   refine ZC (fun w1 hw h => rparse_m (l := l) Zo) fun n => ?_
   refine ZJ (Ke l != 0) true (by simpa using h1) ?_
   refine ZV (.tuple #[RV0.val, .int .i64 (Ke l)]) (fun w1 hw h => ⟨RV0, rfl, hw, fun w'' k1 k2 => outQ0 h1⟩)
  have hE := pq_e4 (by rw [hAl]; exact h1) (by rw [hP]; intro h; cases h)
  have hNn : pqN l = Kd l := by unfold pqN; rw [hAl]
  rw [hD, hNn] at hE
  refine ZC (fun w1 hw h => slash_v hs Zo) fun u => ?_
  refine ZJ (decide ((-1 : Int) ≥ 0)) false Zd ?_
  refine ZC (fun w1 hw h => rparse_m (l := l) Zo) fun n => ?_
  refine ZJ (Ke l != 0) false (by rw [h1]; rfl) ?_
  refine ZC (fun w1 hw h => rparse_v (l := [49]) parse_one.1 Zd) fun d => ?_
  refine ZI false ?_
  refine ZI false ?_
  refine ZC (fun w1 hw h => rqnew_m h.1.2.i (h.2.cast parse_one.2).i Zd) fun f => ?_
  refine ZD 5 (fun w1 hw h => rcmp_m (h.2.n Zd).1.i h.1.1.2.i Zd) fun c => ?_
  by_cases hN1 : (Rat.divInt (Kd l) 1).num = Kd l
  case neg =>
   rw [if_neg (fun q => hN1 q.1)] at hE
   rw [hE]
   refine ZT 61 (.bool (Ny ((Rat.divInt (Kd l) 1).num - Kd l) != 0)) (.bool true) (by rw [sgn_eq, decide_eq_true hN1]) ?_
   refine ZI true ?_
   refine ZV (.tuple #[RV0.val, .int .i64 3]) (fun w1 hw h => ⟨RV0, rfl, hw, fun w'' k1 k2 => outQ0 Zd⟩)
  refine ZT 61 (.bool (Ny ((Rat.divInt (Kd l) 1).num - Kd l) != 0)) (.bool false) (by rw [sgn_eq, decide_eq_false (by simpa using hN1)]) ?_
  refine ZC (fun w1 hw h => rcmp_m (h.1.2.n Zd).2.i (h.1.1.2.cast parse_one.2).i Zd) fun c => ?_
  by_cases hN2 : ((Rat.divInt (Kd l) 1).den : Int) = 1
  case neg =>
   rw [if_neg (fun q => hN2 q.2)] at hE
   rw [hE]
   refine ZJ (Ny (((Rat.divInt (Kd l) 1).den : Int) - 1) != 0) true (by rw [sgn_eq, decide_eq_true hN2]) ?_
   refine ZV (.tuple #[RV0.val, .int .i64 3]) (fun w1 hw h => ⟨RV0, rfl, hw, fun w'' k1 k2 => outQ0 Zd⟩)
  rw [if_pos ⟨hN1, hN2⟩] at hE
  rw [hE]
  refine ZJ (Ny (((Rat.divInt (Kd l) 1).den : Int) - 1) != 0) false (by rw [sgn_eq, decide_eq_false (by simpa using hN2)]) ?_
  refine ZV (.tuple #[f.val, .int .i64 0]) (fun w1 hw h => ⟨f, rfl, hw, fun w'' k1 k2 => outQn rfl (by unfold pqV; rw [hD, hNn]; exact (h w'' k1 k2).1.1.2.n Zd)⟩)
 obtain ⟨c1, c2, c3⟩ := cutL_yes hP
 have hs : slI l = ((L9 l).1.length : Int) := by unfold slI; rw [hP]; rfl
 have hge : decide ((((L9 l).1.length : Nat) : Int) ≥ 0) = true := decide_eq_true Zo
 have hw1 : IntKind.i64.wrap ((((L9 l).1.length : Nat) : Int) + 1) = (((L9 l).1.length + 1 : Nat) : Int) := Kf c1 Zo
 have hD : pqD l = Kd B := by unfold pqD; rw [hP, hB]; rfl
 rw [hA] at hs hge hw1 c1 c2 c3
 rw [hB] at c3
 rw [hA, hB] at hlen
 refine ZC (fun w1 hw h => slash_v hs Zo) fun u => ?_
 refine K0.condr (decide (((A.length : Nat) : Int) ≥ 0)) true Zk (hge) ?_
 refine ZS 2 ?_
 refine K0.askAt 2 (toA 9 (K4 l) (A.length : Nat)) (K4 A) Zk (fun w1 hw h => by rw [run_toA Zk Zo, c2]) ?_
 refine ZS 6 ?_
 refine K0.slot 22 (.int .i64 (IntKind.i64.wrap (((A.length : Nat) : Int) + 1))) (.int .i64 ((A.length + 1 : Nat) : Int)) Zk (by rw [hw1]) ?_
 refine ZB 6 (fromA 9 (K4 l) (A.length + 1 : Nat)) (K4 B) (fun w1 hw h => by rw [run_fromA Zk Zo, c3]) ?_
 refine ZC (fun w1 hw h => rparse_m (l := A) Zo) fun n => ?_
 by_cases h1 : Ke A = 0
 case neg =>
  rw [pq_e1 (by rw [hA]; exact h1), hA]
  refine ZJ (Ke A != 0) true (by simpa using h1) ?_
  refine ZV (.tuple #[RV0.val, .int .i64 (Ke A)]) (fun w1 hw h => ⟨RV0, rfl, hw, fun w'' k1 k2 => outQ0 h1⟩)
 have hNn : pqN l = Kd A := by unfold pqN; rw [hA]
 refine ZJ (Ke A != 0) false (by rw [h1]; rfl) ?_
 refine ZC (fun w1 hw h => rparse_m (l := B) Zo) fun d => ?_
 by_cases h2 : Ke B = 0
 case neg =>
  rw [pq_e2 (by rw [hA]; exact h1) hP (by rw [hB]; exact h2), hB]
  refine ZJ (Ke B != 0) true (by simpa using h2) ?_
  refine ZV (.tuple #[RV0.val, .int .i64 (Ke B)]) (fun w1 hw h => ⟨RV0, rfl, hw, fun w'' k1 k2 => outQ0 h2⟩)
 refine K0.condr (Ke B != 0) false Zk (by rw [h2]; rfl) ?_
 refine ZS 2 ?_
 refine ZT 43 (.bool (decide (((A.length : Nat) : Int) ≥ 0))) (.bool true) (by rw [hge]) ?_
 refine ZC (fun w1 hw h => rfromInt_m 2 w1 Zd Zd) fun t => ?_
 refine ZC (fun w1 hw h => rcmp_m h.1.2.i h.2.i Zd) fun c => ?_
 by_cases h3 : Kd B < 2
 ·rw [pq_e3 (by rw [hA]; exact h1) hP (by rw [hB]; exact h2) (by rw [hB]; exact h3)]
  refine ZJ (decide (Ny (Kd B - 2) < 0)) true (by rw [lt0]; exact decide_eq_true h3) ?_
  refine ZV (.tuple #[RV0.val, .int .i64 3]) (fun w1 hw h => ⟨RV0, rfl, hw, fun w'' k1 k2 => outQ0 Zd⟩)
 have hE := pq_e4 (by rw [hA]; exact h1) (fun _ => ⟨by rw [hB]; exact h2, by omega⟩)
 rw [hD, hNn] at hE
 have hy0 : Kd B ≠ 0 := by omega
 refine ZJ (decide (Ny (Kd B - 2) < 0)) false (by rw [lt0]; exact decide_eq_false h3) ?_
 refine ZC (fun w1 hw h => rqnew_m h.1.1.1.2.i h.1.1.2.i Zd) fun f => ?_
 refine ZD 5 (fun w1 hw h => rcmp_m (h.2.n hy0).1.i h.1.1.1.1.2.i Zd) fun c => ?_
 by_cases hN1 : (Rat.divInt (Kd A) (Kd B)).num = Kd A
 case neg =>
  rw [if_neg (fun q => hN1 q.1)] at hE
  rw [hE]
  refine ZT 61 (.bool (Ny ((Rat.divInt (Kd A) (Kd B)).num - Kd A) != 0)) (.bool true) (by rw [sgn_eq, decide_eq_true hN1]) ?_
  refine ZI true ?_
  refine ZV (.tuple #[RV0.val, .int .i64 3]) (fun w1 hw h => ⟨RV0, rfl, hw, fun w'' k1 k2 => outQ0 Zd⟩)
 refine ZT 61 (.bool (Ny ((Rat.divInt (Kd A) (Kd B)).num - Kd A) != 0)) (.bool false) (by rw [sgn_eq, decide_eq_false (by simpa using hN1)]) ?_
 refine ZC (fun w1 hw h => rcmp_m (h.1.2.n hy0).2.i h.1.1.1.1.2.i Zd) fun c => ?_
 by_cases hN2 : ((Rat.divInt (Kd A) (Kd B)).den : Int) = Kd B
 case neg =>
  rw [if_neg (fun q => hN2 q.2)] at hE
  rw [hE]
  refine ZJ (Ny (((Rat.divInt (Kd A) (Kd B)).den : Int) - Kd B) != 0) true (by rw [sgn_eq, decide_eq_true hN2]) ?_
  refine ZV (.tuple #[RV0.val, .int .i64 3]) (fun w1 hw h => ⟨RV0, rfl, hw, fun w'' k1 k2 => outQ0 Zd⟩)
 rw [if_pos ⟨hN1, hN2⟩] at hE
 rw [hE]
 refine ZJ (Ny (((Rat.divInt (Kd A) (Kd B)).den : Int) - Kd B) != 0) false (by rw [sgn_eq, decide_eq_false (by simpa using hN2)]) ?_
 refine ZV (.tuple #[f.val, .int .i64 0]) (fun w1 hw h => ⟨f, rfl, hw, fun w'' k1 k2 => outQn rfl (by unfold pqV; rw [hD, hNn]; exact (h w'' k1 k2).1.1.2.n hy0)⟩)
end
end Go.Proofs.YtncodmhgfkailaaGreatDoor
