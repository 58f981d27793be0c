/-
 Transforms.
-/
import Derived.Test.YtdeepdckmhpldaaGreatDoorAO
import Derived.Test.YtdeepdckmhpldaaGreatDoorGA
import Derived.Test.YtdeepdckmhpldaaGreatDoorAUP
import Derived.Test.YtdeepdckmhpldaaGreatDoorAR
namespace Go.Proofs.YtdeepdckmhpldaaGreatDoor
set_option maxRecDepth 100000
set_option maxHeartbeats 8000000
set_option linter.unusedVariables false
set_option linter.unusedSimpArgs false
open Go.RowKit
structure TV where
 a : RV
 b : RV
 c : RV
 d : RV
 e : RV
 f : RV
def TV.cl (t : TV) : List Value := t.a.cl ++ (t.b.cl ++ (t.c.cl ++ (t.d.cl ++ (t.e.cl ++ t.f.cl))))
@[reducible] def TV.val (t : TV) : Value := .agg t.cl.toArray
structure Zm where
 a : Rat
 b : Rat
 c : Rat
 d : Rat
 e : Rat
 f : Rat
structure IsA (t : TV) (T : Zm) (K : Nat) (w : World) : Prop where
 a : X8 t.a T.a K w
 b : X8 t.b T.b K w
 c : X8 t.c T.c K w
 d : X8 t.d T.d K w
 e : X8 t.e T.e K w
 f : X8 t.f T.f K w
structure IsAN (t : TV) (T : Zm) (K : Nat) (w : World) : Prop where
 a : Ob t.a T.a K w
 b : Ob t.b T.b K w
 c : Ob t.c T.c K w
 d : Ob t.d T.d K w
 e : Ob t.e T.e K w
 f : Ob t.f T.f K w
def Rm (T : Zm) : List Nat := [bitsQ T.a, bitsQ T.b, bitsQ T.c, bitsQ T.d, bitsQ T.e, bitsQ T.f]
def Zm.ok (T : Zm) : Bool := (Rm T).all fun n => decide (n ≤ 256)
def Zm.det (T : Zm) : Rat := T.a * T.d - T.b * T.c
section
variable {t u : TV} {T U : Zm} {K K' : Nat} {w w' : World}
theorem IsA.below (h : IsA t T K w) (hb : Below w.heap.size w w') : IsA t T K w' := ⟨h.a.below hb, h.b.below hb, h.c.below hb, h.d.below hb, h.e.below hb, h.f.below hb⟩
end
theorem bits_8 {n : Nat} (h : bitsN n ≤ 256) : n < pw 8 := by
 rw [Rt]
 unfold bitsN at h
 split at h
 ·rename_i h0; rw [h0]; exact Nat.two_pow_pos _
 ·exact Nat.lt_of_lt_of_le Nat.lt_log2_self (Nat.pow_le_pow_right Zd Zo)
theorem Zm.ok_bits {T : Zm} (h : T.ok = true) : bitsQ T.a ≤ 256 ∧ bitsQ T.b ≤ 256 ∧ bitsQ T.c ≤ 256 ∧ bitsQ T.d ≤ 256 ∧ bitsQ T.e ≤ 256 ∧ bitsQ T.f ≤ 256 := by
 unfold Zm.ok Rm at h
 simpa using h
theorem isq0 {K : Nat} {w : World} : X8 RV0 ((0 : Int) : Rat) K w := ⟨0, 0, ⟨In.nil_, rfl, Nat.zero_le _⟩, ⟨In.nil_, rfl, Nat.zero_le _⟩, by rw [Vr]; rfl⟩
section
variable {t u : TV} {T U : Zm} {K : Nat} {w : World} {r s r2 s2 : RV} {p q p2 q2 : Rat}
theorem numbers_m (ht : IsA t T K w) (hK : 2 ≤ K ∧ K ≤ 10000000) :
 Calls Tryz.prog 161 #[t.val] w (K5 w TV.val fun v w => IsAN v T K w) := by
 refine K0.enter Tryz.func161 rfl ?_
 refine ZR ?_
 refine K0.un Zk ?_
 refine ZR ?_
 refine K0.drop 5 Zk (fun _ => ?_)
 refine ZI true ?_
 refine ZC (fun w1 hw h => M0 (ht.a.below hw) Zo) fun a => ?_
 refine K0.drop 5 Zk (fun _ => ?_)
 refine ZI true ?_
 refine ZC (fun w1 hw h => M0 (ht.b.below hw) Zo) fun b => ?_
 refine K0.drop 5 Zk (fun _ => ?_)
 refine ZI true ?_
 refine ZC (fun w1 hw h => M0 (ht.c.below hw) Zo) fun c => ?_
 refine K0.drop 5 Zk (fun _ => ?_)
 refine ZI true ?_
 refine ZC (fun w1 hw h => M0 (ht.d.below hw) Zo) fun d => ?_
 refine K0.drop 5 Zk (fun _ => ?_)
 refine ZI true ?_
 refine ZC (fun w1 hw h => M0 (ht.e.below hw) Zo) fun e => ?_
 refine K0.drop 5 Zk (fun _ => ?_)
 refine ZI true ?_
 refine ZC (fun w1 hw h => M0 (ht.f.below hw) Zo) fun f => ?_
 refine ZI false ?_
 refine ZV (TV.val ⟨a, b, c, d, e, f⟩) (fun w1 hw h => ⟨⟨a, b, c, d, e, f⟩, rfl, hw, fun w'' k1 k2 => ⟨(h w'' k1 k2).1.1.1.1.1.2, (h w'' k1 k2).1.1.1.1.2, (h w'' k1 k2).1.1.1.2, (h w'' k1 k2).1.1.2, (h w'' k1 k2).1.2, (h w'' k1 k2).2⟩⟩)
theorem detA_m (ht : IsA t T K w) (hK : 2 ≤ K ∧ K ≤ 10000000) :
 Calls Tryz.prog 119 #[t.val] w (K5 w RV.val fun v w => Ob v T.det (4 * K + 1) w) := by
 refine K0.enter Tryz.func119 rfl ?_
 refine ZR ?_
 refine ZC (fun w1 hw h => qmul_m (ht.a.below hw) (ht.d.below hw) Zo) fun m => ?_
 refine ZC (fun w1 hw h => qmul_m (ht.b.below hw) (ht.c.below hw) Zo) fun n => ?_
 refine ZC (fun w1 hw h => qsub_m h.1.2.q h.2.q Zo) fun v => ?_
 refine ZV (RV.val v) (fun w1 hw h => ⟨v, rfl, hw, fun w'' k1 k2 => (h w'' k1 k2).2.mono Zo⟩)
theorem validA_m (ht : IsA t T K w) (hK : 2 ≤ K ∧ K ≤ 10000000) :
 Calls Tryz.prog 110 #[t.val] w (K5 w (fun _ : Unit => .bool T.ok) fun _ _ => True) := by
 have bad : ∀ n ∈ Rm T, ((n : Int) > 256) → T.ok = false := fun n hn h => by
  unfold Zm.ok
  rw [List.all_eq_false]
  exact ⟨n, hn, by simp; omega⟩
 refine K0.enter Tryz.func110 rfl ?_
 refine ZR ?_
 refine ZC (fun w1 hw h => numbers_m (ht.below hw) hK) fun n => ?_
 refine K0.un Zk ?_
 refine ZR ?_
 refine K0.drop 4 Zk (fun _ => ?_)
 refine ZI true ?_
 refine ZC (fun w1 hw h => T2 h.2.a.q Zo) fun u => ?_
 refine K0.both (decide (((bitsQ T.a : Nat) : Int) > 256)) Zk (fun hc => ?_) (fun hc => ?_)
 ·
  refine K0.runC Zk (stop := 1000) 6000 _ ?_
  exact ZX (.bool false) (by rw [bad (bitsQ T.a) (by simp [Rm]) (of_decide_eq_true hc)])
 have hba := of_decide_eq_false hc
 clear hc
 refine ZR ?_
 refine K0.drop 4 Zk (fun _ => ?_)
 refine ZI true ?_
 refine ZC (fun w1 hw h => T2 h.1.2.b.q Zo) fun u => ?_
 refine K0.both (decide (((bitsQ T.b : Nat) : Int) > 256)) Zk (fun hc => ?_) (fun hc => ?_)
 ·
  refine K0.runC Zk (stop := 1000) 6000 _ ?_
  exact ZX (.bool false) (by rw [bad (bitsQ T.b) (by simp [Rm]) (of_decide_eq_true hc)])
 have hbb := of_decide_eq_false hc
 clear hc
 refine ZR ?_
 refine K0.drop 4 Zk (fun _ => ?_)
 refine ZI true ?_
 refine ZC (fun w1 hw h => T2 h.1.1.2.c.q Zo) fun u => ?_
 refine K0.both (decide (((bitsQ T.c : Nat) : Int) > 256)) Zk (fun hc => ?_) (fun hc => ?_)
 ·
  refine K0.runC Zk (stop := 1000) 6000 _ ?_
  exact ZX (.bool false) (by rw [bad (bitsQ T.c) (by simp [Rm]) (of_decide_eq_true hc)])
 have hbc := of_decide_eq_false hc
 clear hc
 refine ZR ?_
 refine K0.drop 4 Zk (fun _ => ?_)
 refine ZI true ?_
 refine ZC (fun w1 hw h => T2 h.1.1.1.2.d.q Zo) fun u => ?_
 refine K0.both (decide (((bitsQ T.d : Nat) : Int) > 256)) Zk (fun hc => ?_) (fun hc => ?_)
 ·
  refine K0.runC Zk (stop := 1000) 6000 _ ?_
  exact ZX (.bool false) (by rw [bad (bitsQ T.d) (by simp [Rm]) (of_decide_eq_true hc)])
 have hbd := of_decide_eq_false hc
 clear hc
 refine ZR ?_
 refine K0.drop 4 Zk (fun _ => ?_)
 refine ZI true ?_
 refine ZC (fun w1 hw h => T2 h.1.1.1.1.2.e.q Zo) fun u => ?_
 refine K0.both (decide (((bitsQ T.e : Nat) : Int) > 256)) Zk (fun hc => ?_) (fun hc => ?_)
 ·
  refine K0.runC Zk (stop := 1000) 6000 _ ?_
  exact ZX (.bool false) (by rw [bad (bitsQ T.e) (by simp [Rm]) (of_decide_eq_true hc)])
 have hbe := of_decide_eq_false hc
 clear hc
 refine ZR ?_
 refine K0.drop 4 Zk (fun _ => ?_)
 refine ZI true ?_
 refine ZC (fun w1 hw h => T2 h.1.1.1.1.1.2.f.q Zo) fun u => ?_
 refine K0.both (decide (((bitsQ T.f : Nat) : Int) > 256)) Zk (fun hc => ?_) (fun hc => ?_)
 ·
  refine K0.runC Zk (stop := 1000) 6000 _ ?_
  exact ZX (.bool false) (by rw [bad (bitsQ T.f) (by simp [Rm]) (of_decide_eq_true hc)])
 have hbf := of_decide_eq_false hc
 clear hc
 refine ZR ?_
 refine ZI false ?_
 have hall : T.ok = true := by unfold Zm.ok Rm; simp only [List.all_cons, List.all_nil, Bool.and_true, Bool.and_eq_true, decide_eq_true_eq]; exact ⟨by omega, by omega, by omega, by omega, by omega, by omega⟩
 exact ZX (.bool true) (by rw [hall])
theorem validA_v {B : Bool} (hB : T.ok = B) (ht : IsA t T K w) (hK : 2 ≤ K ∧ K ≤ 10000000) : Calls Tryz.prog 110 #[t.val] w (K5 w (fun _ : Unit => .bool B) fun _ _ => True) := by subst hB; exact validA_m ht hK
end
section
variable {w : World} {t u : TV} {T U : Zm} {K K1 K2 : Nat} {r s : RV} {p q : Rat} {X Y : Int}
def Sq (r s : RV) (B : Bool) (w : World) : Prop := ∀ v, Below w.heap.size w v → Calls Tryz.prog 317 #[r.val, s.val] v (K5 v (fun _ : Unit => .bool B) fun _ _ => True)
theorem Yi (ha : Ob r p K1 w) (hb : Ob s q K2 w) : Sq r s (decide (p = q)) w := fun v hv => rsame_nn (ha.below hv) (hb.below hv) rfl
theorem Sq.below {B : Bool} {w' : World} (h : Sq r s B w) (hb : Below w.heap.size w w') : Sq r s B w' := fun v hv => h v (hb.trans (hv.mono hb.size))
theorem coef_m : Calls Tryz.prog 231 #[t.val] w (K5 w (Kb 6) fun g v => Ka v g t.cl) := by
 refine K0.enter Tryz.func231 rfl ?_
 refine ZS 12 ?_
 refine K0.make (Ks 68 6 #[(0, t.a.val), (1, t.b.val), (2, t.c.val), (3, t.d.val), (4, t.e.val), (5, t.f.val)]) (Kb 6) (Kp 36 t.cl.toArray) Zk (fun w1 hw h => K8 Zk) (fun g => ?_)
 refine ZR ?_
 refine ZV (Kb 6 g) (fun w1 hw h => ⟨g, rfl, hw, fun w'' k1 k2 => ⟨_, (h w'' k1 k2).2⟩⟩)
theorem six_a {g : Nat} (h : Ka w g t.cl) : w.rangeAt g (0 * 4) t.a.cl := h.fst
theorem six_b {g : Nat} (h : Ka w g t.cl) : w.rangeAt g (1 * 4) t.b.cl := by have := (Ka.mid (a := t.a.cl) h); intro j v hv; exact this j v (by rw [List.getElem?_append_left (List.getElem?_eq_some_iff.1 hv).1]; exact hv)
theorem six_c {g : Nat} (h : Ka w g t.cl) : w.rangeAt g (2 * 4) t.c.cl := by have := (Ka.mid (a := t.a.cl ++ t.b.cl) (b := t.c.cl ++ (t.d.cl ++ (t.e.cl ++ t.f.cl))) (by rw [List.append_assoc]; exact h)); intro j v hv; exact this j v (by rw [List.getElem?_append_left (List.getElem?_eq_some_iff.1 hv).1]; exact hv)
theorem six_d {g : Nat} (h : Ka w g t.cl) : w.rangeAt g (3 * 4) t.d.cl := by have := (Ka.mid (a := t.a.cl ++ t.b.cl ++ t.c.cl) (b := t.d.cl ++ (t.e.cl ++ t.f.cl)) (by rw [List.append_assoc, List.append_assoc]; exact h)); intro j v hv; exact this j v (by rw [List.getElem?_append_left (List.getElem?_eq_some_iff.1 hv).1]; exact hv)
theorem six_e {g : Nat} (h : Ka w g t.cl) : w.rangeAt g (4 * 4) t.e.cl := by have := (Ka.mid (a := t.a.cl ++ t.b.cl ++ t.c.cl ++ t.d.cl) (b := t.e.cl ++ t.f.cl) (by rw [List.append_assoc, List.append_assoc, List.append_assoc]; exact h)); intro j v hv; exact this j v (by rw [List.getElem?_append_left (List.getElem?_eq_some_iff.1 hv).1]; exact hv)
theorem six_f {g : Nat} (h : Ka w g t.cl) : w.rangeAt g (5 * 4) t.f.cl := Ka.mid (a := t.a.cl ++ t.b.cl ++ t.c.cl ++ t.d.cl ++ t.e.cl) (by rw [List.append_assoc, List.append_assoc, List.append_assoc, List.append_assoc]; exact h)
theorem Ka.below {g : Nat} {cs : List Value} {w' : World} (h : Ka w g cs) (hb : Below w.heap.size w w') : Ka w' g cs := by
 obtain ⟨ty, h⟩ := h
 exact ⟨ty, (hb.block g (Array.getElem?_eq_some_iff.1 h).1).trans h⟩
theorem sameAll6_m {g g' : Nat} {Ba Bb Bc Bd Be Bf : Bool} (hg : Ka w g t.cl) (hg' : Ka w g' u.cl) (ha : Sq t.a u.a Ba w) (hb : Sq t.b u.b Bb w) (hc : Sq t.c u.c Bc w) (hd : Sq t.d u.d Bd w) (he : Sq t.e u.e Be w) (hf : Sq t.f u.f Bf w) :
 Calls Tryz.prog 316 #[Kb 6 g, Kb 6 g'] w (K5 w (fun _ : Unit => .bool (Ba && (Bb && (Bc && (Bd && (Be && Bf)))))) fun _ _ => True) := by
 refine K0.enter Tryz.func316 rfl ?_
 refine ZR ?_
 refine ZI false ?_
 refine K0.un Zk ?_
 refine ZR ?_
 refine ZI true ?_
 refine ZB 2 (Ke 68 (Kb 6 g) 0) (.pointer (some ⟨g, 0 * 4, none⟩)) (fun w1 hw h => Kn (elem := 36) Zk Zk Zd) ?_
 refine ZB 3 (L7 36 ⟨g, 0 * 4, none⟩) (t.a.val) (fun w1 hw h => M6 (vs := t.a.cl) Zk Zk (six_a (hg.below hw))) ?_
 refine ZB 6 (Ke 68 (Kb 6 g') 0) (.pointer (some ⟨g', 0 * 4, none⟩)) (fun w1 hw h => Kn (elem := 36) Zk Zk Zd) ?_
 refine ZB 7 (L7 36 ⟨g', 0 * 4, none⟩) (u.a.val) (fun w1 hw h => M6 (vs := u.a.cl) Zk Zk (six_a (hg'.below hw))) ?_
 cases Ba
 ·
  refine ZC (fun w1 hw h => ha w1 hw) fun z => ?_
  refine K0.runC Zk (stop := 1000) 6000 _ ?_
  exact ZX (.bool false) Zs
 refine ZC (fun w1 hw h => ha w1 hw) fun z => ?_
 refine ZI false ?_
 refine ZI true ?_
 refine ZB 2 (Ke 68 (Kb 6 g) 1) (.pointer (some ⟨g, 1 * 4, none⟩)) (fun w1 hw h => Kn (elem := 36) Zk Zk Zd) ?_
 refine ZB 3 (L7 36 ⟨g, 1 * 4, none⟩) (t.b.val) (fun w1 hw h => M6 (vs := t.b.cl) Zk Zk (six_b (hg.below hw))) ?_
 refine ZB 6 (Ke 68 (Kb 6 g') 1) (.pointer (some ⟨g', 1 * 4, none⟩)) (fun w1 hw h => Kn (elem := 36) Zk Zk Zd) ?_
 refine ZB 7 (L7 36 ⟨g', 1 * 4, none⟩) (u.b.val) (fun w1 hw h => M6 (vs := u.b.cl) Zk Zk (six_b (hg'.below hw))) ?_
 cases Bb
 ·
  refine ZC (fun w1 hw h => hb w1 hw) fun z => ?_
  refine K0.runC Zk (stop := 1000) 6000 _ ?_
  exact ZX (.bool false) Zs
 refine ZC (fun w1 hw h => hb w1 hw) fun z => ?_
 refine ZI false ?_
 refine ZI true ?_
 refine ZB 2 (Ke 68 (Kb 6 g) 2) (.pointer (some ⟨g, 2 * 4, none⟩)) (fun w1 hw h => Kn (elem := 36) Zk Zk Zd) ?_
 refine ZB 3 (L7 36 ⟨g, 2 * 4, none⟩) (t.c.val) (fun w1 hw h => M6 (vs := t.c.cl) Zk Zk (six_c (hg.below hw))) ?_
 refine ZB 6 (Ke 68 (Kb 6 g') 2) (.pointer (some ⟨g', 2 * 4, none⟩)) (fun w1 hw h => Kn (elem := 36) Zk Zk Zd) ?_
 refine ZB 7 (L7 36 ⟨g', 2 * 4, none⟩) (u.c.val) (fun w1 hw h => M6 (vs := u.c.cl) Zk Zk (six_c (hg'.below hw))) ?_
 cases Bc
 ·
  refine ZC (fun w1 hw h => hc w1 hw) fun z => ?_
  refine K0.runC Zk (stop := 1000) 6000 _ ?_
  exact ZX (.bool false) Zs
 refine ZC (fun w1 hw h => hc w1 hw) fun z => ?_
 refine ZI false ?_
 refine ZI true ?_
 refine ZB 2 (Ke 68 (Kb 6 g) 3) (.pointer (some ⟨g, 3 * 4, none⟩)) (fun w1 hw h => Kn (elem := 36) Zk Zk Zd) ?_
 refine ZB 3 (L7 36 ⟨g, 3 * 4, none⟩) (t.d.val) (fun w1 hw h => M6 (vs := t.d.cl) Zk Zk (six_d (hg.below hw))) ?_
 refine ZB 6 (Ke 68 (Kb 6 g') 3) (.pointer (some ⟨g', 3 * 4, none⟩)) (fun w1 hw h => Kn (elem := 36) Zk Zk Zd) ?_
 refine ZB 7 (L7 36 ⟨g', 3 * 4, none⟩) (u.d.val) (fun w1 hw h => M6 (vs := u.d.cl) Zk Zk (six_d (hg'.below hw))) ?_
 cases Bd
 ·
  refine ZC (fun w1 hw h => hd w1 hw) fun z => ?_
  refine K0.runC Zk (stop := 1000) 6000 _ ?_
  exact ZX (.bool false) Zs
 refine ZC (fun w1 hw h => hd w1 hw) fun z => ?_
 refine ZI false ?_
 refine ZI true ?_
 refine ZB 2 (Ke 68 (Kb 6 g) 4) (.pointer (some ⟨g, 4 * 4, none⟩)) (fun w1 hw h => Kn (elem := 36) Zk Zk Zd) ?_
 refine ZB 3 (L7 36 ⟨g, 4 * 4, none⟩) (t.e.val) (fun w1 hw h => M6 (vs := t.e.cl) Zk Zk (six_e (hg.below hw))) ?_
 refine ZB 6 (Ke 68 (Kb 6 g') 4) (.pointer (some ⟨g', 4 * 4, none⟩)) (fun w1 hw h => Kn (elem := 36) Zk Zk Zd) ?_
 refine ZB 7 (L7 36 ⟨g', 4 * 4, none⟩) (u.e.val) (fun w1 hw h => M6 (vs := u.e.cl) Zk Zk (six_e (hg'.below hw))) ?_
 cases Be
 ·
  refine ZC (fun w1 hw h => he w1 hw) fun z => ?_
  refine K0.runC Zk (stop := 1000) 6000 _ ?_
  exact ZX (.bool false) Zs
 refine ZC (fun w1 hw h => he w1 hw) fun z => ?_
 refine ZI false ?_
 refine ZI true ?_
 refine ZB 2 (Ke 68 (Kb 6 g) 5) (.pointer (some ⟨g, 5 * 4, none⟩)) (fun w1 hw h => Kn (elem := 36) Zk Zk Zd) ?_
 refine ZB 3 (L7 36 ⟨g, 5 * 4, none⟩) (t.f.val) (fun w1 hw h => M6 (vs := t.f.cl) Zk Zk (six_f (hg.below hw))) ?_
 refine ZB 6 (Ke 68 (Kb 6 g') 5) (.pointer (some ⟨g', 5 * 4, none⟩)) (fun w1 hw h => Kn (elem := 36) Zk Zk Zd) ?_
 refine ZB 7 (L7 36 ⟨g', 5 * 4, none⟩) (u.f.val) (fun w1 hw h => M6 (vs := u.f.cl) Zk Zk (six_f (hg'.below hw))) ?_
 cases Bf
 ·
  refine ZC (fun w1 hw h => hf w1 hw) fun z => ?_
  refine K0.runC Zk (stop := 1000) 6000 _ ?_
  exact ZX (.bool false) Zs
 refine ZC (fun w1 hw h => hf w1 hw) fun z => ?_
 refine ZI false ?_
 refine ZI false ?_
 exact ZX (.bool true) Zs
theorem fields_m {Ba Bb Bc Bd Be Bf : Bool} (ha : Sq t.a u.a Ba w) (hb : Sq t.b u.b Bb w) (hc : Sq t.c u.c Bc w) (hd : Sq t.d u.d Bd w) (he : Sq t.e u.e Be w) (hf : Sq t.f u.f Bf w) :
 Calls Tryz.prog 315 #[t.val, u.val] w (K5 w (fun _ : Unit => .bool (Ba && (Bb && (Bc && (Bd && (Be && Bf)))))) fun _ _ => True) := by
 refine K0.enter Tryz.func315 rfl ?_
 refine ZR ?_
 refine ZC (fun w1 hw h => coef_m (t := t)) fun g => ?_
 refine ZC (fun w1 hw h => coef_m (t := u)) fun g' => ?_
 refine ZC (fun w1 hw h => sameAll6_m h.1.2 h.2 (ha.below hw) (hb.below hw) (hc.below hw) (hd.below hw) (he.below hw) (hf.below hw)) fun v => ?_
 exact ZW (.bool (Ba && (Bb && (Bc && (Bd && (Be && Bf))))))
def eqA (T U : Zm) : Bool := decide (T.a = U.a) && (decide (T.b = U.b) && (decide (T.c = U.c) && (decide (T.d = U.d) && (decide (T.e = U.e) && decide (T.f = U.f)))))
theorem eqA_rfl : eqA T T = true := by simp [eqA]
theorem fieldsN_m {B : Bool} (hB : eqA T U = B) (h1 : IsAN t T K1 w) (h2 : IsAN u U K2 w) : Calls Tryz.prog 315 #[t.val, u.val] w (K5 w (fun _ : Unit => .bool B) fun _ _ => True) := by
 subst hB
 exact fields_m (Yi h1.a h2.a) (Yi h1.b h2.b) (Yi h1.c h2.c) (Yi h1.d h2.d) (Yi h1.e h2.e) (Yi h1.f h2.f)
def bd (z : Int) : Prop := -9223372036854775808 ≤ z ∧ z ≤ 9223372036854775807
end
section
variable {w : World} {t u : TV} {T U : Zm} {K K1 K2 : Nat} {r s r2 s2 : RV} {p q p2 q2 : Rat} {X Y : Int}
theorem rvalidA_m (ht : IsA t T K w) (hK : 2 ≤ K ∧ K ≤ 10000000) :
 Calls Tryz.prog 192 #[t.val] w (K5 w (fun _ : Unit => .bool T.ok) fun _ _ => True) := by
 have bad : ∀ n ∈ Rm T, ((n : Int) > 256) → T.ok = false := fun n hn h => by
  unfold Zm.ok
  rw [List.all_eq_false]
  exact ⟨n, hn, by simp; omega⟩
 refine K0.enter Tryz.func192 rfl ?_
 refine ZR ?_
 refine ZC (fun w1 hw h => coef_m (t := t)) fun g => ?_
 refine K0.un Zk ?_
 refine ZR ?_
 refine ZI true ?_
 refine ZA (Ke 68 (Kb 6 g) 0) (.pointer (some ⟨g, 0 * 4, none⟩)) (fun w1 hw h => Kn (elem := 36) Zk Zk Zd) ?_
 refine ZA (L7 36 ⟨g, 0 * 4, none⟩) (t.a.val) (fun w1 hw h => M6 (vs := t.a.cl) Zk Zk (six_a h.2)) ?_
 refine ZC (fun w1 hw h => Rq (ht.a.below hw) Zo) fun u => ?_
 refine K0.both (decide (((bitsQ T.a : Nat) : Int) > 256)) Zk (fun hc => ?_) (fun hc => ?_)
 ·
  refine K0.runC Zk (stop := 1000) 6000 _ ?_
  exact ZX (.bool false) (by rw [bad (bitsQ T.a) (by simp [Rm]) (of_decide_eq_true hc)])
 have hba := of_decide_eq_false hc
 clear hc
 refine ZR ?_
 refine ZI true ?_
 refine ZA (Ke 68 (Kb 6 g) 1) (.pointer (some ⟨g, 1 * 4, none⟩)) (fun w1 hw h => Kn (elem := 36) Zk Zk Zd) ?_
 refine ZA (L7 36 ⟨g, 1 * 4, none⟩) (t.b.val) (fun w1 hw h => M6 (vs := t.b.cl) Zk Zk (six_b h.1.2)) ?_
 refine ZC (fun w1 hw h => Rq (ht.b.below hw) Zo) fun u => ?_
 refine K0.both (decide (((bitsQ T.b : Nat) : Int) > 256)) Zk (fun hc => ?_) (fun hc => ?_)
 ·
  refine K0.runC Zk (stop := 1000) 6000 _ ?_
  exact ZX (.bool false) (by rw [bad (bitsQ T.b) (by simp [Rm]) (of_decide_eq_true hc)])
 have hbb := of_decide_eq_false hc
 clear hc
 refine ZR ?_
 refine ZI true ?_
 refine ZA (Ke 68 (Kb 6 g) 2) (.pointer (some ⟨g, 2 * 4, none⟩)) (fun w1 hw h => Kn (elem := 36) Zk Zk Zd) ?_
 refine ZA (L7 36 ⟨g, 2 * 4, none⟩) (t.c.val) (fun w1 hw h => M6 (vs := t.c.cl) Zk Zk (six_c h.1.1.2)) ?_
 refine ZC (fun w1 hw h => Rq (ht.c.below hw) Zo) fun u => ?_
 refine K0.both (decide (((bitsQ T.c : Nat) : Int) > 256)) Zk (fun hc => ?_) (fun hc => ?_)
 ·
  refine K0.runC Zk (stop := 1000) 6000 _ ?_
  exact ZX (.bool false) (by rw [bad (bitsQ T.c) (by simp [Rm]) (of_decide_eq_true hc)])
 have hbc := of_decide_eq_false hc
 clear hc
 refine ZR ?_
 refine ZI true ?_
 refine ZA (Ke 68 (Kb 6 g) 3) (.pointer (some ⟨g, 3 * 4, none⟩)) (fun w1 hw h => Kn (elem := 36) Zk Zk Zd) ?_
 refine ZA (L7 36 ⟨g, 3 * 4, none⟩) (t.d.val) (fun w1 hw h => M6 (vs := t.d.cl) Zk Zk (six_d h.1.1.1.2)) ?_
 refine ZC (fun w1 hw h => Rq (ht.d.below hw) Zo) fun u => ?_
 refine K0.both (decide (((bitsQ T.d : Nat) : Int) > 256)) Zk (fun hc => ?_) (fun hc => ?_)
 ·
  refine K0.runC Zk (stop := 1000) 6000 _ ?_
  exact ZX (.bool false) (by rw [bad (bitsQ T.d) (by simp [Rm]) (of_decide_eq_true hc)])
 have hbd := of_decide_eq_false hc
 clear hc
 refine ZR ?_
 refine ZI true ?_
 refine ZA (Ke 68 (Kb 6 g) 4) (.pointer (some ⟨g, 4 * 4, none⟩)) (fun w1 hw h => Kn (elem := 36) Zk Zk Zd) ?_
 refine ZA (L7 36 ⟨g, 4 * 4, none⟩) (t.e.val) (fun w1 hw h => M6 (vs := t.e.cl) Zk Zk (six_e h.1.1.1.1.2)) ?_
 refine ZC (fun w1 hw h => Rq (ht.e.below hw) Zo) fun u => ?_
 refine K0.both (decide (((bitsQ T.e : Nat) : Int) > 256)) Zk (fun hc => ?_) (fun hc => ?_)
 ·
  refine K0.runC Zk (stop := 1000) 6000 _ ?_
  exact ZX (.bool false) (by rw [bad (bitsQ T.e) (by simp [Rm]) (of_decide_eq_true hc)])
 have hbe := of_decide_eq_false hc
 clear hc
 refine ZR ?_
 refine ZI true ?_
 refine ZA (Ke 68 (Kb 6 g) 5) (.pointer (some ⟨g, 5 * 4, none⟩)) (fun w1 hw h => Kn (elem := 36) Zk Zk Zd) ?_
 refine ZA (L7 36 ⟨g, 5 * 4, none⟩) (t.f.val) (fun w1 hw h => M6 (vs := t.f.cl) Zk Zk (six_f h.1.1.1.1.1.2)) ?_
 refine ZC (fun w1 hw h => Rq (ht.f.below hw) Zo) fun u => ?_
 refine K0.both (decide (((bitsQ T.f : Nat) : Int) > 256)) Zk (fun hc => ?_) (fun hc => ?_)
 ·
  refine K0.runC Zk (stop := 1000) 6000 _ ?_
  exact ZX (.bool false) (by rw [bad (bitsQ T.f) (by simp [Rm]) (of_decide_eq_true hc)])
 have hbf := of_decide_eq_false hc
 clear hc
 refine ZR ?_
 refine ZI false ?_
 have hall : T.ok = true := by unfold Zm.ok Rm; simp only [List.all_cons, List.all_nil, Bool.and_true, Bool.and_eq_true, decide_eq_true_eq]; exact ⟨by omega, by omega, by omega, by omega, by omega, by omega⟩
 exact ZX (.bool true) (by rw [hall])
theorem rvalidA_v {B : Bool} (hB : T.ok = B) (ht : IsA t T K w) (hK : 2 ≤ K ∧ K ≤ 10000000) : Calls Tryz.prog 192 #[t.val] w (K5 w (fun _ : Unit => .bool B) fun _ _ => True) := by subst hB; exact rvalidA_m ht hK
end
theorem Q7 {p q : Rat} {B : Bool} (h : decide (p = q) = B) : (Rc p q != 0) = !B := by
 rw [← h]
 unfold Rc
 by_cases h1 : p < q
 ·rw [if_pos h1, decide_eq_false (fun k => by rw [k] at h1; exact absurd h1 (Rat.lt_irrefl))]; rfl
 ·rw [if_neg h1]
  by_cases h2 : p = q
  ·rw [if_pos h2, decide_eq_true h2]; rfl
  ·rw [if_neg h2, decide_eq_false h2]; rfl
section
variable {w wa : World} {t u : TV} {T U : Zm} {K K1 K2 : Nat} {r s : RV} {p q : Rat} {X Y : Int} {L : List Nat} {ty : TypeId}
theorem equalA_m (ht : IsA t T K w) (hu : IsA u U K w) (hK : 2 ≤ K ∧ K ≤ 10000000) : Calls Tryz.prog 113 #[t.val, u.val] w (K5 w (fun _ : Unit => .bool (eqA T U)) fun _ _ => True) := by
 refine K0.enter Tryz.func113 rfl ?_
 refine ZR ?_
 refine ZC (fun w1 hw h => numbers_m (ht.below hw) hK) fun n => ?_
 refine ZC (fun w1 hw h => numbers_m (hu.below hw) hK) fun m => ?_
 refine K0.un Zk ?_
 refine ZR ?_
 refine K0.drop 8 Zk (fun _ => ?_)
 refine ZI true ?_
 refine ZC (fun w1 hw h => Xr h.1.2.a.q h.2.a.q Zo) fun v => ?_
 cases hea : decide (T.a = U.a)
 ·
  refine ZJ (Rc T.a U.a != 0) true (by rw [Q7 hea]; rfl) ?_
  exact ZX (.bool false) (by unfold eqA; rw [hea]; simp)
 refine ZJ (Rc T.a U.a != 0) false (by rw [Q7 hea]; rfl) ?_
 refine K0.drop 8 Zk (fun _ => ?_)
 refine ZI true ?_
 refine ZC (fun w1 hw h => Xr h.1.1.2.b.q h.1.2.b.q Zo) fun v => ?_
 cases heb : decide (T.b = U.b)
 ·
  refine ZJ (Rc T.b U.b != 0) true (by rw [Q7 heb]; rfl) ?_
  exact ZX (.bool false) (by unfold eqA; rw [heb]; simp)
 refine ZJ (Rc T.b U.b != 0) false (by rw [Q7 heb]; rfl) ?_
 refine K0.drop 8 Zk (fun _ => ?_)
 refine ZI true ?_
 refine ZC (fun w1 hw h => Xr h.1.1.1.2.c.q h.1.1.2.c.q Zo) fun v => ?_
 cases hec : decide (T.c = U.c)
 ·
  refine ZJ (Rc T.c U.c != 0) true (by rw [Q7 hec]; rfl) ?_
  exact ZX (.bool false) (by unfold eqA; rw [hec]; simp)
 refine ZJ (Rc T.c U.c != 0) false (by rw [Q7 hec]; rfl) ?_
 refine K0.drop 8 Zk (fun _ => ?_)
 refine ZI true ?_
 refine ZC (fun w1 hw h => Xr h.1.1.1.1.2.d.q h.1.1.1.2.d.q Zo) fun v => ?_
 cases hed : decide (T.d = U.d)
 ·
  refine ZJ (Rc T.d U.d != 0) true (by rw [Q7 hed]; rfl) ?_
  exact ZX (.bool false) (by unfold eqA; rw [hed]; simp)
 refine ZJ (Rc T.d U.d != 0) false (by rw [Q7 hed]; rfl) ?_
 refine K0.drop 8 Zk (fun _ => ?_)
 refine ZI true ?_
 refine ZC (fun w1 hw h => Xr h.1.1.1.1.1.2.e.q h.1.1.1.1.2.e.q Zo) fun v => ?_
 cases hee : decide (T.e = U.e)
 ·
  refine ZJ (Rc T.e U.e != 0) true (by rw [Q7 hee]; rfl) ?_
  exact ZX (.bool false) (by unfold eqA; rw [hee]; simp)
 refine ZJ (Rc T.e U.e != 0) false (by rw [Q7 hee]; rfl) ?_
 refine K0.drop 8 Zk (fun _ => ?_)
 refine ZI true ?_
 refine ZC (fun w1 hw h => Xr h.1.1.1.1.1.1.2.f.q h.1.1.1.1.1.2.f.q Zo) fun v => ?_
 cases hef : decide (T.f = U.f)
 ·
  refine ZJ (Rc T.f U.f != 0) true (by rw [Q7 hef]; rfl) ?_
  exact ZX (.bool false) (by unfold eqA; rw [hef]; simp)
 refine ZJ (Rc T.f U.f != 0) false (by rw [Q7 hef]; rfl) ?_
 refine ZI false ?_
 exact ZX (.bool true) (by unfold eqA; rw [hea, heb, hec, hed, hee, hef]; rfl)
theorem rnormA_m (ht : IsA t T K w) (hK : 2 ≤ K ∧ K ≤ 10000000) : Calls Tryz.prog 86 #[t.val] w (K5 w TV.val fun v w => IsAN v T K w) := by
 refine K0.enter Tryz.func86 rfl ?_
 refine ZR ?_
 refine ZC (fun w1 hw h => Lg (ht.a.below hw) Zo) fun a => ?_
 refine ZC (fun w1 hw h => Lg (ht.b.below hw) Zo) fun b => ?_
 refine ZC (fun w1 hw h => Lg (ht.c.below hw) Zo) fun c => ?_
 refine ZC (fun w1 hw h => Lg (ht.d.below hw) Zo) fun d => ?_
 refine ZC (fun w1 hw h => Lg (ht.e.below hw) Zo) fun e => ?_
 refine ZC (fun w1 hw h => Lg (ht.f.below hw) Zo) fun f => ?_
 refine ZV (TV.val ⟨a, b, c, d, e, f⟩) (fun w1 hw h => ⟨⟨a, b, c, d, e, f⟩, rfl, hw, fun w'' k1 k2 => ⟨(h w'' k1 k2).1.1.1.1.1.2, (h w'' k1 k2).1.1.1.1.2, (h w'' k1 k2).1.1.1.2, (h w'' k1 k2).1.1.2, (h w'' k1 k2).1.2, (h w'' k1 k2).2⟩⟩)
theorem requalA_m (ht : IsA t T K w) (hu : IsA u U K w) (hK : 2 ≤ K ∧ K ≤ 10000000) : Calls Tryz.prog 314 #[t.val, u.val] w (K5 w (fun _ : Unit => .bool (eqA T U)) fun _ _ => True) := by
 refine K0.enter Tryz.func314 rfl ?_
 refine ZR ?_
 refine ZC (fun w1 hw h => rnormA_m (ht.below hw) hK) fun n => ?_
 refine ZC (fun w1 hw h => rnormA_m (hu.below hw) hK) fun m => ?_
 refine ZC (fun w1 hw h => fieldsN_m rfl h.1.2 h.2) fun v => ?_
 exact ZW (.bool (eqA T U))
theorem rdetA_m (ht : IsA t T K w) (hK : 2 ≤ K ∧ K ≤ 10000000) : Calls Tryz.prog 194 #[t.val] w (K5 w RV.val fun v w => Ob v T.det (4 * K + 1) w) := by
 refine K0.enter Tryz.func194 rfl ?_
 refine ZR ?_
 refine ZC (fun w1 hw h => rqmul_m (ht.a.below hw) (ht.d.below hw) Zo) fun m => ?_
 refine ZC (fun w1 hw h => rqmul_m (ht.b.below hw) (ht.c.below hw) Zo) fun n => ?_
 refine ZC (fun w1 hw h => rqsub_m h.1.2.q h.2.q Zo) fun v => ?_
 refine ZV (RV.val v) (fun w1 hw h => ⟨v, rfl, hw, fun w'' k1 k2 => (h w'' k1 k2).2.mono Zo⟩)
end
section
variable {w : World} {t u : TV} {T U : Zm} {K K1 K2 : Nat} {r s : RV} {X Y : Int}
theorem requalA_v {B : Bool} (hB : eqA T U = B) (ht : IsA t T K w) (hu : IsA u U K w) (hK : 2 ≤ K ∧ K ≤ 10000000) : Calls Tryz.prog 314 #[t.val, u.val] w (K5 w (fun _ : Unit => .bool B) fun _ _ => True) := by subst hB; exact requalA_m ht hu hK
end
structure InT (t : TV) (w : World) : Prop where
 a : InR t.a w
 b : InR t.b w
 c : InR t.c w
 d : InR t.d w
 e : InR t.e w
 f : InR t.f w
theorem rd_aff {w : World} {cs : List Value} (h : Rd w shAff cs) : ∃ t : TV, cs = t.cl ∧ InT t w := by
 obtain ⟨_, _, rfl, _, h1, h⟩ := Kh h
 obtain ⟨_, _, rfl, _, h2, h⟩ := Kh h
 obtain ⟨_, _, rfl, _, h3, h⟩ := Kh h
 obtain ⟨_, _, rfl, _, h4, h⟩ := Kh h
 obtain ⟨_, _, rfl, _, h5, h⟩ := Kh h
 obtain ⟨_, _, rfl, _, h6, h⟩ := Kh h
 obtain rfl := h
 obtain ⟨a, rfl, ia⟩ := Yp h1
 obtain ⟨b, rfl, ib⟩ := Yp h2
 obtain ⟨c, rfl, ic⟩ := Yp h3
 obtain ⟨d, rfl, id⟩ := Yp h4
 obtain ⟨e, rfl, ie⟩ := Yp h5
 obtain ⟨f, rfl, if_⟩ := Yp h6
 exact ⟨⟨a, b, c, d, e, f⟩, by simp [TV.cl], ia, ib, ic, id, ie, if_⟩
end Go.Proofs.YtdeepdckmhpldaaGreatDoor
