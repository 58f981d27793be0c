/-
 Transforms.
-/
import Derived.Test.YtncodmhgfkailaaGreatDoorAO
import Derived.Test.YtncodmhgfkailaaGreatDoorGA
import Derived.Test.YtncodmhgfkailaaGreatDoorAUP
import Derived.Test.YtncodmhgfkailaaGreatDoorAR
namespace Go.Proofs.YtncodmhgfkailaaGreatDoor
set_option maxRecDepth 100000
set_option maxHeartbeats 8000000
set_option linter.unusedVariables false
set_option linter.unusedSimpArgs false
open Go.RowKit
structure TV where
 a : RV
 b : RV
 c : RV
 d : RV
 e : RV
 f : RV
def TV.cl (t : TV) : List Value := t.a.cl ++ (t.b.cl ++ (t.c.cl ++ (t.d.cl ++ (t.e.cl ++ t.f.cl))))
@[reducible] def TV.val (t : TV) : Value := .agg t.cl.toArray
structure Aff where
 a : Rat
 b : Rat
 c : Rat
 d : Rat
 e : Rat
 f : Rat
structure IsA (t : TV) (T : Aff) (K : Nat) (w : World) : Prop where
 a : IsQ t.a T.a K w
 b : IsQ t.b T.b K w
 c : IsQ t.c T.c K w
 d : IsQ t.d T.d K w
 e : IsQ t.e T.e K w
 f : IsQ t.f T.f K w
structure IsAN (t : TV) (T : Aff) (K : Nat) (w : World) : Prop where
 a : Mh t.a T.a K w
 b : Mh t.b T.b K w
 c : Mh t.c T.c K w
 d : Mh t.d T.d K w
 e : Mh t.e T.e K w
 f : Mh t.f T.f K w
def TV0 : TV := ⟨RV0, RV0, RV0, RV0, RV0, RV0⟩
def bitsA (T : Aff) : List Nat := [bitsQ T.a, bitsQ T.b, bitsQ T.c, bitsQ T.d, bitsQ T.e, bitsQ T.f]
def Aff.ok (T : Aff) : Bool := (bitsA T).all fun n => decide (n ≤ 256)
def Aff.det (T : Aff) : Rat := T.a * T.d - T.b * T.c
section
variable {t u : TV} {T U : Aff} {K K' : Nat} {w w' : World}
theorem IsA.below (h : IsA t T K w) (hb : Below w.heap.size w w') : IsA t T K w' := ⟨h.a.below hb, h.b.below hb, h.c.below hb, h.d.below hb, h.e.below hb, h.f.below hb⟩
theorem IsAN.below (h : IsAN t T K w) (hb : Below w.heap.size w w') : IsAN t T K w' := ⟨h.a.below hb, h.b.below hb, h.c.below hb, h.d.below hb, h.e.below hb, h.f.below hb⟩
theorem IsA.mono (h : IsA t T K w) (hK : K ≤ K') : IsA t T K' w := ⟨h.a.mono hK, h.b.mono hK, h.c.mono hK, h.d.mono hK, h.e.mono hK, h.f.mono hK⟩
end
theorem bits_8 {n : Nat} (h : bitsN n ≤ 256) : n < pw 8 := by
 rw [Qq]
 unfold bitsN at h
 split at h
 ·rename_i h0; rw [h0]; exact Nat.two_pow_pos _
 ·exact Nat.lt_of_lt_of_le Nat.lt_log2_self (Nat.pow_le_pow_right Zd Zo)
theorem Aff.ok_bits {T : Aff} (h : T.ok = true) : bitsQ T.a ≤ 256 ∧ bitsQ T.b ≤ 256 ∧ bitsQ T.c ≤ 256 ∧ bitsQ T.d ≤ 256 ∧ bitsQ T.e ≤ 256 ∧ bitsQ T.f ≤ 256 := by
 unfold Aff.ok bitsA at h
 simpa using h
theorem isq0 {K : Nat} {w : World} : IsQ RV0 ((0 : Int) : Rat) K w := ⟨0, 0, ⟨In.nil_, rfl, Nat.zero_le _⟩, ⟨In.nil_, rfl, Nat.zero_le _⟩, by rw [divInt_zero']; rfl⟩
section
variable {t u : TV} {T U : Aff} {K : Nat} {w : World} {r s r2 s2 : RV} {p q p2 q2 : Rat}
theorem numbers_m (ht : IsA t T K w) (hK : 2 ≤ K ∧ K ≤ 10000000) :
 Calls Tryz.prog 97 #[t.val] w (K5 w TV.val fun v w => IsAN v T K w) := by
 refine K0.enter Tryz.func97 rfl ?_
 refine ZR ?_
 refine K0.un Zk ?_
 refine ZR ?_
 refine K0.drop 5 Zk (fun _ => ?_)
 refine ZI true ?_
 refine ZC (fun w1 hw h => Lq (ht.a.below hw) Zo) fun a => ?_
 refine K0.drop 5 Zk (fun _ => ?_)
 refine ZI true ?_
 refine ZC (fun w1 hw h => Lq (ht.b.below hw) Zo) fun b => ?_
 refine K0.drop 5 Zk (fun _ => ?_)
 refine ZI true ?_
 refine ZC (fun w1 hw h => Lq (ht.c.below hw) Zo) fun c => ?_
 refine K0.drop 5 Zk (fun _ => ?_)
 refine ZI true ?_
 refine ZC (fun w1 hw h => Lq (ht.d.below hw) Zo) fun d => ?_
 refine K0.drop 5 Zk (fun _ => ?_)
 refine ZI true ?_
 refine ZC (fun w1 hw h => Lq (ht.e.below hw) Zo) fun e => ?_
 refine K0.drop 5 Zk (fun _ => ?_)
 refine ZI true ?_
 refine ZC (fun w1 hw h => Lq (ht.f.below hw) Zo) fun f => ?_
 refine ZI false ?_
 refine ZV (TV.val ⟨a, b, c, d, e, f⟩) (fun w1 hw h => ⟨⟨a, b, c, d, e, f⟩, rfl, hw, fun w'' k1 k2 => ⟨(h w'' k1 k2).1.1.1.1.1.2, (h w'' k1 k2).1.1.1.1.2, (h w'' k1 k2).1.1.1.2, (h w'' k1 k2).1.1.2, (h w'' k1 k2).1.2, (h w'' k1 k2).2⟩⟩)
theorem detA_m (ht : IsA t T K w) (hK : 2 ≤ K ∧ K ≤ 10000000) :
 Calls Tryz.prog 49 #[t.val] w (K5 w RV.val fun v w => Mh v T.det (4 * K + 1) w) := by
 refine K0.enter Tryz.func49 rfl ?_
 refine ZR ?_
 refine ZC (fun w1 hw h => qmul_m (ht.a.below hw) (ht.d.below hw) Zo) fun m => ?_
 refine ZC (fun w1 hw h => qmul_m (ht.b.below hw) (ht.c.below hw) Zo) fun n => ?_
 refine ZC (fun w1 hw h => qsub_m h.1.2.q h.2.q Zo) fun v => ?_
 refine ZV (RV.val v) (fun w1 hw h => ⟨v, rfl, hw, fun w'' k1 k2 => (h w'' k1 k2).2.mono Zo⟩)
theorem validA_m (ht : IsA t T K w) (hK : 2 ≤ K ∧ K ≤ 10000000) :
 Calls Tryz.prog 40 #[t.val] w (K5 w (fun _ : Unit => .bool T.ok) fun _ _ => True) := by
 have bad : ∀ n ∈ bitsA T, ((n : Int) > 256) → T.ok = false := fun n hn h => by
  unfold Aff.ok
  rw [List.all_eq_false]
  exact ⟨n, hn, by simp; omega⟩
 refine K0.enter Tryz.func40 rfl ?_
 refine ZR ?_
 refine ZC (fun w1 hw h => numbers_m (ht.below hw) hK) fun n => ?_
 refine K0.un Zk ?_
 refine ZR ?_
 refine K0.drop 4 Zk (fun _ => ?_)
 refine ZI true ?_
 refine ZC (fun w1 hw h => qbitLen_m h.2.a.q Zo) fun u => ?_
 refine K0.both (decide (((bitsQ T.a : Nat) : Int) > 256)) Zk (fun hc => ?_) (fun hc => ?_)
 ·
  refine K0.runC Zk (stop := 1000) 6000 _ ?_
  exact ZX (.bool false) (by rw [bad (bitsQ T.a) (by simp [bitsA]) (of_decide_eq_true hc)])
 have hba := of_decide_eq_false hc
 clear hc
 refine ZR ?_
 refine K0.drop 4 Zk (fun _ => ?_)
 refine ZI true ?_
 refine ZC (fun w1 hw h => qbitLen_m h.1.2.b.q Zo) fun u => ?_
 refine K0.both (decide (((bitsQ T.b : Nat) : Int) > 256)) Zk (fun hc => ?_) (fun hc => ?_)
 ·
  refine K0.runC Zk (stop := 1000) 6000 _ ?_
  exact ZX (.bool false) (by rw [bad (bitsQ T.b) (by simp [bitsA]) (of_decide_eq_true hc)])
 have hbb := of_decide_eq_false hc
 clear hc
 refine ZR ?_
 refine K0.drop 4 Zk (fun _ => ?_)
 refine ZI true ?_
 refine ZC (fun w1 hw h => qbitLen_m h.1.1.2.c.q Zo) fun u => ?_
 refine K0.both (decide (((bitsQ T.c : Nat) : Int) > 256)) Zk (fun hc => ?_) (fun hc => ?_)
 ·
  refine K0.runC Zk (stop := 1000) 6000 _ ?_
  exact ZX (.bool false) (by rw [bad (bitsQ T.c) (by simp [bitsA]) (of_decide_eq_true hc)])
 have hbc := of_decide_eq_false hc
 clear hc
 refine ZR ?_
 refine K0.drop 4 Zk (fun _ => ?_)
 refine ZI true ?_
 refine ZC (fun w1 hw h => qbitLen_m h.1.1.1.2.d.q Zo) fun u => ?_
 refine K0.both (decide (((bitsQ T.d : Nat) : Int) > 256)) Zk (fun hc => ?_) (fun hc => ?_)
 ·
  refine K0.runC Zk (stop := 1000) 6000 _ ?_
  exact ZX (.bool false) (by rw [bad (bitsQ T.d) (by simp [bitsA]) (of_decide_eq_true hc)])
 have hbd := of_decide_eq_false hc
 clear hc
 refine ZR ?_
 refine K0.drop 4 Zk (fun _ => ?_)
 refine ZI true ?_
 refine ZC (fun w1 hw h => qbitLen_m h.1.1.1.1.2.e.q Zo) fun u => ?_
 refine K0.both (decide (((bitsQ T.e : Nat) : Int) > 256)) Zk (fun hc => ?_) (fun hc => ?_)
 ·
  refine K0.runC Zk (stop := 1000) 6000 _ ?_
  exact ZX (.bool false) (by rw [bad (bitsQ T.e) (by simp [bitsA]) (of_decide_eq_true hc)])
 have hbe := of_decide_eq_false hc
 clear hc
 refine ZR ?_
 refine K0.drop 4 Zk (fun _ => ?_)
 refine ZI true ?_
 refine ZC (fun w1 hw h => qbitLen_m h.1.1.1.1.1.2.f.q Zo) fun u => ?_
 refine K0.both (decide (((bitsQ T.f : Nat) : Int) > 256)) Zk (fun hc => ?_) (fun hc => ?_)
 ·
  refine K0.runC Zk (stop := 1000) 6000 _ ?_
  exact ZX (.bool false) (by rw [bad (bitsQ T.f) (by simp [bitsA]) (of_decide_eq_true hc)])
 have hbf := of_decide_eq_false hc
 clear hc
 refine ZR ?_
 refine ZI false ?_
 have hall : T.ok = true := by unfold Aff.ok bitsA; simp only [List.all_cons, List.all_nil, Bool.and_true, Bool.and_eq_true, decide_eq_true_eq]; exact ⟨by omega, by omega, by omega, by omega, by omega, by omega⟩
 exact ZX (.bool true) (by rw [hall])
theorem validA_v {B : Bool} (hB : T.ok = B) (ht : IsA t T K w) (hK : 2 ≤ K ∧ K ≤ 10000000) : Calls Tryz.prog 40 #[t.val] w (K5 w (fun _ : Unit => .bool B) fun _ _ => True) := by subst hB; exact validA_m ht hK
end
section
variable {w : World} {t u : TV} {T U : Aff} {K K1 K2 : Nat} {r s : RV} {p q : Rat} {X Y : Int}
def SameC (r s : RV) (B : Bool) (w : World) : Prop := ∀ v, Below w.heap.size w v → Calls Tryz.prog 155 #[r.val, s.val] v (K5 v (fun _ : Unit => .bool B) fun _ _ => True)
theorem same_nn (ha : Mh r p K1 w) (hb : Mh s q K2 w) : SameC r s (decide (p = q)) w := fun v hv => rsame_nn (ha.below hv) (hb.below hv) rfl
theorem same_00 : SameC RV0 RV0 true w := fun v hv => rsame_v Zd (isI0 v) (isI0 v) (isI0 v) (isI0 v)
theorem SameC.below {B : Bool} {w' : World} (h : SameC r s B w) (hb : Below w.heap.size w w') : SameC r s B w' := fun v hv => h v (hb.trans (hv.mono hb.size))
theorem coef_m : Calls Tryz.prog 80 #[t.val] w (K5 w (Ki 6) fun g v => K8 v g t.cl) := by
 refine K0.enter Tryz.func80 rfl ?_
 refine ZS 12 ?_
 refine K0.make (Li 80 6 #[(0, t.a.val), (1, t.b.val), (2, t.c.val), (3, t.d.val), (4, t.e.val), (5, t.f.val)]) (Ki 6) (L8 34 t.cl.toArray) Zk (fun w1 hw h => Kb Zk) (fun g => ?_)
 refine ZR ?_
 refine ZV (Ki 6 g) (fun w1 hw h => ⟨g, rfl, hw, fun w'' k1 k2 => ⟨_, (h w'' k1 k2).2⟩⟩)
theorem six_a {g : Nat} (h : K8 w g t.cl) : w.rangeAt g (0 * 4) t.a.cl := h.fst
theorem six_b {g : Nat} (h : K8 w g t.cl) : w.rangeAt g (1 * 4) t.b.cl := by have := (K8.mid (a := t.a.cl) h); intro j v hv; exact this j v (by rw [List.getElem?_append_left (List.getElem?_eq_some_iff.1 hv).1]; exact hv)
theorem six_c {g : Nat} (h : K8 w g t.cl) : w.rangeAt g (2 * 4) t.c.cl := by have := (K8.mid (a := t.a.cl ++ t.b.cl) (b := t.c.cl ++ (t.d.cl ++ (t.e.cl ++ t.f.cl))) (by rw [List.append_assoc]; exact h)); intro j v hv; exact this j v (by rw [List.getElem?_append_left (List.getElem?_eq_some_iff.1 hv).1]; exact hv)
theorem six_d {g : Nat} (h : K8 w g t.cl) : w.rangeAt g (3 * 4) t.d.cl := by have := (K8.mid (a := t.a.cl ++ t.b.cl ++ t.c.cl) (b := t.d.cl ++ (t.e.cl ++ t.f.cl)) (by rw [List.append_assoc, List.append_assoc]; exact h)); intro j v hv; exact this j v (by rw [List.getElem?_append_left (List.getElem?_eq_some_iff.1 hv).1]; exact hv)
theorem six_e {g : Nat} (h : K8 w g t.cl) : w.rangeAt g (4 * 4) t.e.cl := by have := (K8.mid (a := t.a.cl ++ t.b.cl ++ t.c.cl ++ t.d.cl) (b := t.e.cl ++ t.f.cl) (by rw [List.append_assoc, List.append_assoc, List.append_assoc]; exact h)); intro j v hv; exact this j v (by rw [List.getElem?_append_left (List.getElem?_eq_some_iff.1 hv).1]; exact hv)
theorem six_f {g : Nat} (h : K8 w g t.cl) : w.rangeAt g (5 * 4) t.f.cl := K8.mid (a := t.a.cl ++ t.b.cl ++ t.c.cl ++ t.d.cl ++ t.e.cl) (by rw [List.append_assoc, List.append_assoc, List.append_assoc, List.append_assoc]; exact h)
theorem K8.below {g : Nat} {cs : List Value} {w' : World} (h : K8 w g cs) (hb : Below w.heap.size w w') : K8 w' g cs := by
 obtain ⟨ty, h⟩ := h
 exact ⟨ty, (hb.block g (Array.getElem?_eq_some_iff.1 h).1).trans h⟩
theorem sameAll6_m {g g' : Nat} {Ba Bb Bc Bd Be Bf : Bool} (hg : K8 w g t.cl) (hg' : K8 w g' u.cl) (ha : SameC t.a u.a Ba w) (hb : SameC t.b u.b Bb w) (hc : SameC t.c u.c Bc w) (hd : SameC t.d u.d Bd w) (he : SameC t.e u.e Be w) (hf : SameC t.f u.f Bf w) :
 Calls Tryz.prog 79 #[Ki 6 g, Ki 6 g'] w (K5 w (fun _ : Unit => .bool (Ba && (Bb && (Bc && (Bd && (Be && Bf)))))) fun _ _ => True) := by
 refine K0.enter Tryz.func79 rfl ?_
 refine ZR ?_
 refine ZI false ?_
 refine K0.un Zk ?_
 refine ZR ?_
 refine ZI true ?_
 refine ZB 2 (Kx 80 (Ki 6 g) 0) (.pointer (some ⟨g, 0 * 4, none⟩)) (fun w1 hw h => Lc (elem := 34) Zk Zk Zd) ?_
 refine ZB 3 (Ln 34 ⟨g, 0 * 4, none⟩) (t.a.val) (fun w1 hw h => Ly (vs := t.a.cl) Zk Zk (six_a (hg.below hw))) ?_
 refine ZB 6 (Kx 80 (Ki 6 g') 0) (.pointer (some ⟨g', 0 * 4, none⟩)) (fun w1 hw h => Lc (elem := 34) Zk Zk Zd) ?_
 refine ZB 7 (Ln 34 ⟨g', 0 * 4, none⟩) (u.a.val) (fun w1 hw h => Ly (vs := u.a.cl) Zk Zk (six_a (hg'.below hw))) ?_
 cases Ba
 ·
  refine ZC (fun w1 hw h => ha w1 hw) fun z => ?_
  refine K0.runC Zk (stop := 1000) 6000 _ ?_
  exact ZX (.bool false) Zs
 refine ZC (fun w1 hw h => ha w1 hw) fun z => ?_
 refine ZI false ?_
 refine ZI true ?_
 refine ZB 2 (Kx 80 (Ki 6 g) 1) (.pointer (some ⟨g, 1 * 4, none⟩)) (fun w1 hw h => Lc (elem := 34) Zk Zk Zd) ?_
 refine ZB 3 (Ln 34 ⟨g, 1 * 4, none⟩) (t.b.val) (fun w1 hw h => Ly (vs := t.b.cl) Zk Zk (six_b (hg.below hw))) ?_
 refine ZB 6 (Kx 80 (Ki 6 g') 1) (.pointer (some ⟨g', 1 * 4, none⟩)) (fun w1 hw h => Lc (elem := 34) Zk Zk Zd) ?_
 refine ZB 7 (Ln 34 ⟨g', 1 * 4, none⟩) (u.b.val) (fun w1 hw h => Ly (vs := u.b.cl) Zk Zk (six_b (hg'.below hw))) ?_
 cases Bb
 ·
  refine ZC (fun w1 hw h => hb w1 hw) fun z => ?_
  refine K0.runC Zk (stop := 1000) 6000 _ ?_
  exact ZX (.bool false) Zs
 refine ZC (fun w1 hw h => hb w1 hw) fun z => ?_
 refine ZI false ?_
 refine ZI true ?_
 refine ZB 2 (Kx 80 (Ki 6 g) 2) (.pointer (some ⟨g, 2 * 4, none⟩)) (fun w1 hw h => Lc (elem := 34) Zk Zk Zd) ?_
 refine ZB 3 (Ln 34 ⟨g, 2 * 4, none⟩) (t.c.val) (fun w1 hw h => Ly (vs := t.c.cl) Zk Zk (six_c (hg.below hw))) ?_
 refine ZB 6 (Kx 80 (Ki 6 g') 2) (.pointer (some ⟨g', 2 * 4, none⟩)) (fun w1 hw h => Lc (elem := 34) Zk Zk Zd) ?_
 refine ZB 7 (Ln 34 ⟨g', 2 * 4, none⟩) (u.c.val) (fun w1 hw h => Ly (vs := u.c.cl) Zk Zk (six_c (hg'.below hw))) ?_
 cases Bc
 ·
  refine ZC (fun w1 hw h => hc w1 hw) fun z => ?_
  refine K0.runC Zk (stop := 1000) 6000 _ ?_
  exact ZX (.bool false) Zs
 refine ZC (fun w1 hw h => hc w1 hw) fun z => ?_
 refine ZI false ?_
 refine ZI true ?_
 refine ZB 2 (Kx 80 (Ki 6 g) 3) (.pointer (some ⟨g, 3 * 4, none⟩)) (fun w1 hw h => Lc (elem := 34) Zk Zk Zd) ?_
 refine ZB 3 (Ln 34 ⟨g, 3 * 4, none⟩) (t.d.val) (fun w1 hw h => Ly (vs := t.d.cl) Zk Zk (six_d (hg.below hw))) ?_
 refine ZB 6 (Kx 80 (Ki 6 g') 3) (.pointer (some ⟨g', 3 * 4, none⟩)) (fun w1 hw h => Lc (elem := 34) Zk Zk Zd) ?_
 refine ZB 7 (Ln 34 ⟨g', 3 * 4, none⟩) (u.d.val) (fun w1 hw h => Ly (vs := u.d.cl) Zk Zk (six_d (hg'.below hw))) ?_
 cases Bd
 ·
  refine ZC (fun w1 hw h => hd w1 hw) fun z => ?_
  refine K0.runC Zk (stop := 1000) 6000 _ ?_
  exact ZX (.bool false) Zs
 refine ZC (fun w1 hw h => hd w1 hw) fun z => ?_
 refine ZI false ?_
 refine ZI true ?_
 refine ZB 2 (Kx 80 (Ki 6 g) 4) (.pointer (some ⟨g, 4 * 4, none⟩)) (fun w1 hw h => Lc (elem := 34) Zk Zk Zd) ?_
 refine ZB 3 (Ln 34 ⟨g, 4 * 4, none⟩) (t.e.val) (fun w1 hw h => Ly (vs := t.e.cl) Zk Zk (six_e (hg.below hw))) ?_
 refine ZB 6 (Kx 80 (Ki 6 g') 4) (.pointer (some ⟨g', 4 * 4, none⟩)) (fun w1 hw h => Lc (elem := 34) Zk Zk Zd) ?_
 refine ZB 7 (Ln 34 ⟨g', 4 * 4, none⟩) (u.e.val) (fun w1 hw h => Ly (vs := u.e.cl) Zk Zk (six_e (hg'.below hw))) ?_
 cases Be
 ·
  refine ZC (fun w1 hw h => he w1 hw) fun z => ?_
  refine K0.runC Zk (stop := 1000) 6000 _ ?_
  exact ZX (.bool false) Zs
 refine ZC (fun w1 hw h => he w1 hw) fun z => ?_
 refine ZI false ?_
 refine ZI true ?_
 refine ZB 2 (Kx 80 (Ki 6 g) 5) (.pointer (some ⟨g, 5 * 4, none⟩)) (fun w1 hw h => Lc (elem := 34) Zk Zk Zd) ?_
 refine ZB 3 (Ln 34 ⟨g, 5 * 4, none⟩) (t.f.val) (fun w1 hw h => Ly (vs := t.f.cl) Zk Zk (six_f (hg.below hw))) ?_
 refine ZB 6 (Kx 80 (Ki 6 g') 5) (.pointer (some ⟨g', 5 * 4, none⟩)) (fun w1 hw h => Lc (elem := 34) Zk Zk Zd) ?_
 refine ZB 7 (Ln 34 ⟨g', 5 * 4, none⟩) (u.f.val) (fun w1 hw h => Ly (vs := u.f.cl) Zk Zk (six_f (hg'.below hw))) ?_
 cases Bf
 ·
  refine ZC (fun w1 hw h => hf w1 hw) fun z => ?_
  refine K0.runC Zk (stop := 1000) 6000 _ ?_
  exact ZX (.bool false) Zs
 refine ZC (fun w1 hw h => hf w1 hw) fun z => ?_
 refine ZI false ?_
 refine ZI false ?_
 exact ZX (.bool true) Zs
theorem fields_m {Ba Bb Bc Bd Be Bf : Bool} (ha : SameC t.a u.a Ba w) (hb : SameC t.b u.b Bb w) (hc : SameC t.c u.c Bc w) (hd : SameC t.d u.d Bd w) (he : SameC t.e u.e Be w) (hf : SameC t.f u.f Bf w) :
 Calls Tryz.prog 26 #[t.val, u.val] w (K5 w (fun _ : Unit => .bool (Ba && (Bb && (Bc && (Bd && (Be && Bf)))))) fun _ _ => True) := by
 refine K0.enter Tryz.func26 rfl ?_
 refine ZR ?_
 refine ZC (fun w1 hw h => coef_m (t := t)) fun g => ?_
 refine ZC (fun w1 hw h => coef_m (t := u)) fun g' => ?_
 refine ZC (fun w1 hw h => sameAll6_m h.1.2 h.2 (ha.below hw) (hb.below hw) (hc.below hw) (hd.below hw) (he.below hw) (hf.below hw)) fun v => ?_
 exact ZW (.bool (Ba && (Bb && (Bc && (Bd && (Be && Bf))))))
def eqA (T U : Aff) : Bool := decide (T.a = U.a) && (decide (T.b = U.b) && (decide (T.c = U.c) && (decide (T.d = U.d) && (decide (T.e = U.e) && decide (T.f = U.f)))))
theorem eqA_rfl : eqA T T = true := by simp [eqA]
theorem eqA_eq (h : eqA T U = true) : T = U := by
 simp only [eqA, Bool.and_eq_true, decide_eq_true_eq] at h
 obtain ⟨h1, h2, h3, h4, h5, h6⟩ := h
 cases T; cases U
 simp only at h1 h2 h3 h4 h5 h6
 subst h1; subst h2; subst h3; subst h4; subst h5; subst h6
 rfl
theorem fieldsN_m {B : Bool} (hB : eqA T U = B) (h1 : IsAN t T K1 w) (h2 : IsAN u U K2 w) : Calls Tryz.prog 26 #[t.val, u.val] w (K5 w (fun _ : Unit => .bool B) fun _ _ => True) := by
 subst hB
 exact fields_m (same_nn h1.a h2.a) (same_nn h1.b h2.b) (same_nn h1.c h2.c) (same_nn h1.d h2.d) (same_nn h1.e h2.e) (same_nn h1.f h2.f)
def OutA (r : TV) (e : Int) (T : Aff) (K : Nat) (u : World) : Prop := if e = 0 then IsAN r T K u else r = TV0
theorem OutA.n {r : TV} {e : Int} (h : OutA r e T K w) (he : e = 0) : IsAN r T K w := by unfold OutA at h; rwa [if_pos he] at h
theorem OutA.z {r : TV} {e : Int} (h : OutA r e T K w) (he : e ≠ 0) : r = TV0 := by unfold OutA at h; rwa [if_neg he] at h
theorem outA0 {e : Int} (he : e ≠ 0) : OutA TV0 e T K w := by unfold OutA; rw [if_neg he]
theorem fieldsO_m {e : Int} (h1 : OutA t e T K1 w) (h2 : OutA u e T K2 w) : Calls Tryz.prog 26 #[t.val, u.val] w (K5 w (fun _ : Unit => .bool true) fun _ _ => True) := by
 by_cases he : e = 0
 ·exact fieldsN_m eqA_rfl (h1.n he) (h2.n he)
 ·rw [h1.z he, h2.z he]
  exact fields_m (t := TV0) (u := TV0) same_00 same_00 same_00 same_00 same_00 same_00
def bd (z : Int) : Prop := -9223372036854775808 ≤ z ∧ z ≤ 9223372036854775807
end
section
variable {w : World} {t u : TV} {T U : Aff} {K K1 K2 : Nat} {r s r2 s2 : RV} {p q p2 q2 : Rat} {X Y : Int}
theorem rvalidA_m (ht : IsA t T K w) (hK : 2 ≤ K ∧ K ≤ 10000000) :
 Calls Tryz.prog 55 #[t.val] w (K5 w (fun _ : Unit => .bool T.ok) fun _ _ => True) := by
 have bad : ∀ n ∈ bitsA T, ((n : Int) > 256) → T.ok = false := fun n hn h => by
  unfold Aff.ok
  rw [List.all_eq_false]
  exact ⟨n, hn, by simp; omega⟩
 refine K0.enter Tryz.func55 rfl ?_
 refine ZR ?_
 refine ZC (fun w1 hw h => coef_m (t := t)) fun g => ?_
 refine K0.un Zk ?_
 refine ZR ?_
 refine ZI true ?_
 refine ZA (Kx 80 (Ki 6 g) 0) (.pointer (some ⟨g, 0 * 4, none⟩)) (fun w1 hw h => Lc (elem := 34) Zk Zk Zd) ?_
 refine ZA (Ln 34 ⟨g, 0 * 4, none⟩) (t.a.val) (fun w1 hw h => Ly (vs := t.a.cl) Zk Zk (six_a h.2)) ?_
 refine ZC (fun w1 hw h => rqbitLen_m (ht.a.below hw) Zo) fun u => ?_
 refine K0.both (decide (((bitsQ T.a : Nat) : Int) > 256)) Zk (fun hc => ?_) (fun hc => ?_)
 ·
  refine K0.runC Zk (stop := 1000) 6000 _ ?_
  exact ZX (.bool false) (by rw [bad (bitsQ T.a) (by simp [bitsA]) (of_decide_eq_true hc)])
 have hba := of_decide_eq_false hc
 clear hc
 refine ZR ?_
 refine ZI true ?_
 refine ZA (Kx 80 (Ki 6 g) 1) (.pointer (some ⟨g, 1 * 4, none⟩)) (fun w1 hw h => Lc (elem := 34) Zk Zk Zd) ?_
 refine ZA (Ln 34 ⟨g, 1 * 4, none⟩) (t.b.val) (fun w1 hw h => Ly (vs := t.b.cl) Zk Zk (six_b h.1.2)) ?_
 refine ZC (fun w1 hw h => rqbitLen_m (ht.b.below hw) Zo) fun u => ?_
 refine K0.both (decide (((bitsQ T.b : Nat) : Int) > 256)) Zk (fun hc => ?_) (fun hc => ?_)
 ·
  refine K0.runC Zk (stop := 1000) 6000 _ ?_
  exact ZX (.bool false) (by rw [bad (bitsQ T.b) (by simp [bitsA]) (of_decide_eq_true hc)])
 have hbb := of_decide_eq_false hc
 clear hc
 refine ZR ?_
 refine ZI true ?_
 refine ZA (Kx 80 (Ki 6 g) 2) (.pointer (some ⟨g, 2 * 4, none⟩)) (fun w1 hw h => Lc (elem := 34) Zk Zk Zd) ?_
 refine ZA (Ln 34 ⟨g, 2 * 4, none⟩) (t.c.val) (fun w1 hw h => Ly (vs := t.c.cl) Zk Zk (six_c h.1.1.2)) ?_
 refine ZC (fun w1 hw h => rqbitLen_m (ht.c.below hw) Zo) fun u => ?_
 refine K0.both (decide (((bitsQ T.c : Nat) : Int) > 256)) Zk (fun hc => ?_) (fun hc => ?_)
 ·
  refine K0.runC Zk (stop := 1000) 6000 _ ?_
  exact ZX (.bool false) (by rw [bad (bitsQ T.c) (by simp [bitsA]) (of_decide_eq_true hc)])
 have hbc := of_decide_eq_false hc
 clear hc
 refine ZR ?_
 refine ZI true ?_
 refine ZA (Kx 80 (Ki 6 g) 3) (.pointer (some ⟨g, 3 * 4, none⟩)) (fun w1 hw h => Lc (elem := 34) Zk Zk Zd) ?_
 refine ZA (Ln 34 ⟨g, 3 * 4, none⟩) (t.d.val) (fun w1 hw h => Ly (vs := t.d.cl) Zk Zk (six_d h.1.1.1.2)) ?_
 refine ZC (fun w1 hw h => rqbitLen_m (ht.d.below hw) Zo) fun u => ?_
 refine K0.both (decide (((bitsQ T.d : Nat) : Int) > 256)) Zk (fun hc => ?_) (fun hc => ?_)
 ·
  refine K0.runC Zk (stop := 1000) 6000 _ ?_
  exact ZX (.bool false) (by rw [bad (bitsQ T.d) (by simp [bitsA]) (of_decide_eq_true hc)])
 have hbd := of_decide_eq_false hc
 clear hc
 refine ZR ?_
 refine ZI true ?_
 refine ZA (Kx 80 (Ki 6 g) 4) (.pointer (some ⟨g, 4 * 4, none⟩)) (fun w1 hw h => Lc (elem := 34) Zk Zk Zd) ?_
 refine ZA (Ln 34 ⟨g, 4 * 4, none⟩) (t.e.val) (fun w1 hw h => Ly (vs := t.e.cl) Zk Zk (six_e h.1.1.1.1.2)) ?_
 refine ZC (fun w1 hw h => rqbitLen_m (ht.e.below hw) Zo) fun u => ?_
 refine K0.both (decide (((bitsQ T.e : Nat) : Int) > 256)) Zk (fun hc => ?_) (fun hc => ?_)
 ·
  refine K0.runC Zk (stop := 1000) 6000 _ ?_
  exact ZX (.bool false) (by rw [bad (bitsQ T.e) (by simp [bitsA]) (of_decide_eq_true hc)])
 have hbe := of_decide_eq_false hc
 clear hc
 refine ZR ?_
 refine ZI true ?_
 refine ZA (Kx 80 (Ki 6 g) 5) (.pointer (some ⟨g, 5 * 4, none⟩)) (fun w1 hw h => Lc (elem := 34) Zk Zk Zd) ?_
 refine ZA (Ln 34 ⟨g, 5 * 4, none⟩) (t.f.val) (fun w1 hw h => Ly (vs := t.f.cl) Zk Zk (six_f h.1.1.1.1.1.2)) ?_
 refine ZC (fun w1 hw h => rqbitLen_m (ht.f.below hw) Zo) fun u => ?_
 refine K0.both (decide (((bitsQ T.f : Nat) : Int) > 256)) Zk (fun hc => ?_) (fun hc => ?_)
 ·
  refine K0.runC Zk (stop := 1000) 6000 _ ?_
  exact ZX (.bool false) (by rw [bad (bitsQ T.f) (by simp [bitsA]) (of_decide_eq_true hc)])
 have hbf := of_decide_eq_false hc
 clear hc
 refine ZR ?_
 refine ZI false ?_
 have hall : T.ok = true := by unfold Aff.ok bitsA; simp only [List.all_cons, List.all_nil, Bool.and_true, Bool.and_eq_true, decide_eq_true_eq]; exact ⟨by omega, by omega, by omega, by omega, by omega, by omega⟩
 exact ZX (.bool true) (by rw [hall])
theorem rvalidA_v {B : Bool} (hB : T.ok = B) (ht : IsA t T K w) (hK : 2 ≤ K ∧ K ≤ 10000000) : Calls Tryz.prog 55 #[t.val] w (K5 w (fun _ : Unit => .bool B) fun _ _ => True) := by subst hB; exact rvalidA_m ht hK
end
theorem Pi {p q : Rat} {B : Bool} (h : decide (p = q) = B) : (cmpQ p q != 0) = !B := by
 rw [← h]
 unfold cmpQ
 by_cases h1 : p < q
 ·rw [if_pos h1, decide_eq_false (fun k => by rw [k] at h1; exact absurd h1 (Rat.lt_irrefl))]; rfl
 ·rw [if_neg h1]
  by_cases h2 : p = q
  ·rw [if_pos h2, decide_eq_true h2]; rfl
  ·rw [if_neg h2, decide_eq_false h2]; rfl
section
variable {w wa : World} {t u : TV} {T U : Aff} {K K1 K2 : Nat} {r s : RV} {p q : Rat} {X Y : Int} {L : List Nat} {ty : TypeId}
theorem equalA_m (ht : IsA t T K w) (hu : IsA u U K w) (hK : 2 ≤ K ∧ K ≤ 10000000) : Calls Tryz.prog 43 #[t.val, u.val] w (K5 w (fun _ : Unit => .bool (eqA T U)) fun _ _ => True) := by
 refine K0.enter Tryz.func43 rfl ?_
 refine ZR ?_
 refine ZC (fun w1 hw h => numbers_m (ht.below hw) hK) fun n => ?_
 refine ZC (fun w1 hw h => numbers_m (hu.below hw) hK) fun m => ?_
 refine K0.un Zk ?_
 refine ZR ?_
 refine K0.drop 8 Zk (fun _ => ?_)
 refine ZI true ?_
 refine ZC (fun w1 hw h => qcmp_m h.1.2.a.q h.2.a.q Zo) fun v => ?_
 cases hea : decide (T.a = U.a)
 ·
  refine ZJ (cmpQ T.a U.a != 0) true (by rw [Pi hea]; rfl) ?_
  exact ZX (.bool false) (by unfold eqA; rw [hea]; simp)
 refine ZJ (cmpQ T.a U.a != 0) false (by rw [Pi hea]; rfl) ?_
 refine K0.drop 8 Zk (fun _ => ?_)
 refine ZI true ?_
 refine ZC (fun w1 hw h => qcmp_m h.1.1.2.b.q h.1.2.b.q Zo) fun v => ?_
 cases heb : decide (T.b = U.b)
 ·
  refine ZJ (cmpQ T.b U.b != 0) true (by rw [Pi heb]; rfl) ?_
  exact ZX (.bool false) (by unfold eqA; rw [heb]; simp)
 refine ZJ (cmpQ T.b U.b != 0) false (by rw [Pi heb]; rfl) ?_
 refine K0.drop 8 Zk (fun _ => ?_)
 refine ZI true ?_
 refine ZC (fun w1 hw h => qcmp_m h.1.1.1.2.c.q h.1.1.2.c.q Zo) fun v => ?_
 cases hec : decide (T.c = U.c)
 ·
  refine ZJ (cmpQ T.c U.c != 0) true (by rw [Pi hec]; rfl) ?_
  exact ZX (.bool false) (by unfold eqA; rw [hec]; simp)
 refine ZJ (cmpQ T.c U.c != 0) false (by rw [Pi hec]; rfl) ?_
 refine K0.drop 8 Zk (fun _ => ?_)
 refine ZI true ?_
 refine ZC (fun w1 hw h => qcmp_m h.1.1.1.1.2.d.q h.1.1.1.2.d.q Zo) fun v => ?_
 cases hed : decide (T.d = U.d)
 ·
  refine ZJ (cmpQ T.d U.d != 0) true (by rw [Pi hed]; rfl) ?_
  exact ZX (.bool false) (by unfold eqA; rw [hed]; simp)
 refine ZJ (cmpQ T.d U.d != 0) false (by rw [Pi hed]; rfl) ?_
 refine K0.drop 8 Zk (fun _ => ?_)
 refine ZI true ?_
 refine ZC (fun w1 hw h => qcmp_m h.1.1.1.1.1.2.e.q h.1.1.1.1.2.e.q Zo) fun v => ?_
 cases hee : decide (T.e = U.e)
 ·
  refine ZJ (cmpQ T.e U.e != 0) true (by rw [Pi hee]; rfl) ?_
  exact ZX (.bool false) (by unfold eqA; rw [hee]; simp)
 refine ZJ (cmpQ T.e U.e != 0) false (by rw [Pi hee]; rfl) ?_
 refine K0.drop 8 Zk (fun _ => ?_)
 refine ZI true ?_
 refine ZC (fun w1 hw h => qcmp_m h.1.1.1.1.1.1.2.f.q h.1.1.1.1.1.2.f.q Zo) fun v => ?_
 cases hef : decide (T.f = U.f)
 ·
  refine ZJ (cmpQ T.f U.f != 0) true (by rw [Pi hef]; rfl) ?_
  exact ZX (.bool false) (by unfold eqA; rw [hef]; simp)
 refine ZJ (cmpQ T.f U.f != 0) false (by rw [Pi hef]; rfl) ?_
 refine ZI false ?_
 exact ZX (.bool true) (by unfold eqA; rw [hea, heb, hec, hed, hee, hef]; rfl)
theorem rnormA_m (ht : IsA t T K w) (hK : 2 ≤ K ∧ K ≤ 10000000) : Calls Tryz.prog 81 #[t.val] w (K5 w TV.val fun v w => IsAN v T K w) := by
 refine K0.enter Tryz.func81 rfl ?_
 refine ZR ?_
 refine ZC (fun w1 hw h => Le (ht.a.below hw) Zo) fun a => ?_
 refine ZC (fun w1 hw h => Le (ht.b.below hw) Zo) fun b => ?_
 refine ZC (fun w1 hw h => Le (ht.c.below hw) Zo) fun c => ?_
 refine ZC (fun w1 hw h => Le (ht.d.below hw) Zo) fun d => ?_
 refine ZC (fun w1 hw h => Le (ht.e.below hw) Zo) fun e => ?_
 refine ZC (fun w1 hw h => Le (ht.f.below hw) Zo) fun f => ?_
 refine ZV (TV.val ⟨a, b, c, d, e, f⟩) (fun w1 hw h => ⟨⟨a, b, c, d, e, f⟩, rfl, hw, fun w'' k1 k2 => ⟨(h w'' k1 k2).1.1.1.1.1.2, (h w'' k1 k2).1.1.1.1.2, (h w'' k1 k2).1.1.1.2, (h w'' k1 k2).1.1.2, (h w'' k1 k2).1.2, (h w'' k1 k2).2⟩⟩)
theorem requalA_m (ht : IsA t T K w) (hu : IsA u U K w) (hK : 2 ≤ K ∧ K ≤ 10000000) : Calls Tryz.prog 27 #[t.val, u.val] w (K5 w (fun _ : Unit => .bool (eqA T U)) fun _ _ => True) := by
 refine K0.enter Tryz.func27 rfl ?_
 refine ZR ?_
 refine ZC (fun w1 hw h => rnormA_m (ht.below hw) hK) fun n => ?_
 refine ZC (fun w1 hw h => rnormA_m (hu.below hw) hK) fun m => ?_
 refine ZC (fun w1 hw h => fieldsN_m rfl h.1.2 h.2) fun v => ?_
 exact ZW (.bool (eqA T U))
theorem rdetA_m (ht : IsA t T K w) (hK : 2 ≤ K ∧ K ≤ 10000000) : Calls Tryz.prog 58 #[t.val] w (K5 w RV.val fun v w => Mh v T.det (4 * K + 1) w) := by
 refine K0.enter Tryz.func58 rfl ?_
 refine ZR ?_
 refine ZC (fun w1 hw h => rqmul_m (ht.a.below hw) (ht.d.below hw) Zo) fun m => ?_
 refine ZC (fun w1 hw h => rqmul_m (ht.b.below hw) (ht.c.below hw) Zo) fun n => ?_
 refine ZC (fun w1 hw h => rqsub_m h.1.2.q h.2.q Zo) fun v => ?_
 refine ZV (RV.val v) (fun w1 hw h => ⟨v, rfl, hw, fun w'' k1 k2 => (h w'' k1 k2).2.mono Zo⟩)
end
section
variable {w : World} {t u : TV} {T U : Aff} {K K1 K2 : Nat} {r s : RV} {X Y : Int}
theorem requalA_v {B : Bool} (hB : eqA T U = B) (ht : IsA t T K w) (hu : IsA u U K w) (hK : 2 ≤ K ∧ K ≤ 10000000) : Calls Tryz.prog 27 #[t.val, u.val] w (K5 w (fun _ : Unit => .bool B) fun _ _ => True) := by subst hB; exact requalA_m ht hu hK
end
structure InT (t : TV) (w : World) : Prop where
 a : InR t.a w
 b : InR t.b w
 c : InR t.c w
 d : InR t.d w
 e : InR t.e w
 f : InR t.f w
theorem rd_aff {w : World} {cs : List Value} (h : Rd w shAff cs) : ∃ t : TV, cs = t.cl ∧ InT t w := by
 obtain ⟨_, _, rfl, _, h1, h⟩ := Lu h
 obtain ⟨_, _, rfl, _, h2, h⟩ := Lu h
 obtain ⟨_, _, rfl, _, h3, h⟩ := Lu h
 obtain ⟨_, _, rfl, _, h4, h⟩ := Lu h
 obtain ⟨_, _, rfl, _, h5, h⟩ := Lu h
 obtain ⟨_, _, rfl, _, h6, h⟩ := Lu h
 obtain rfl := h
 obtain ⟨a, rfl, ia⟩ := rd_rat' h1
 obtain ⟨b, rfl, ib⟩ := rd_rat' h2
 obtain ⟨c, rfl, ic⟩ := rd_rat' h3
 obtain ⟨d, rfl, id⟩ := rd_rat' h4
 obtain ⟨e, rfl, ie⟩ := rd_rat' h5
 obtain ⟨f, rfl, if_⟩ := rd_rat' h6
 exact ⟨⟨a, b, c, d, e, f⟩, by simp [TV.cl], ia, ib, ic, id, ie, if_⟩
end Go.Proofs.YtncodmhgfkailaaGreatDoor
