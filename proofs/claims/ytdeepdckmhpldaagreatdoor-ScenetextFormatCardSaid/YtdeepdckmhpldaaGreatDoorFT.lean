/-
 Scenes as text: the reference's Format.
-/
import Derived.Test.YtdeepdckmhpldaaGreatDoorFN
import Derived.Test.YtdeepdckmhpldaaGreatDoorFJ
import Derived.Test.YtdeepdckmhpldaaGreatDoorPG
namespace Go.Proofs.YtdeepdckmhpldaaGreatDoor
set_option maxRecDepth 100000
set_option maxHeartbeats 8000000
set_option linter.unusedVariables false
set_option linter.unusedSimpArgs false
open Go.RowKit
section
open Go.RowKit
--ATNAMES
section
variable {w : World} {z x : Int} {A : Option Addr} {n c : Nat} {N : Nd} {q : ND} {K : Nat} {S : Sty} {y : Option Addr × Nat} {l : List Int} {B : Bool}
theorem Se {pre l : WS} {f : Int} (hp : (pre.length : Int) = f) (h : f ≤ z ∧ z < f + l.length) : (pre ++ l)[z.toNat]? = some (Kd l f z) := by
 obtain ⟨k, rfl⟩ : ∃ k : Nat, z = f + (k : Int) := ⟨(z - f).toNat, by omega⟩
 obtain ⟨s, hs⟩ : ∃ s, l[k]? = some s := ⟨_, List.getElem?_eq_getElem Zo⟩
 unfold Kd
 rw [show (f + (k : Int) - f).toNat = k by omega, show (f + (k : Int)).toNat = pre.length + k by omega, List.getElem?_append_right Zo, Nat.add_sub_cancel_left, hs]
 rfl
theorem Pp {g : Nat} {L : WS} {s : List UInt8} (h : Kj w (some ⟨g, 0, none⟩) n L) (hs : L[z.toNat]? = some s) (h0 : 0 ≤ z) : (Ke 64 (.slice (some ⟨g, 0, none⟩) n c) z).run Tryz.prog w = .ok (.value (.pointer (some ((⟨g, 0, none⟩ : Addr).add z.toNat)))) w ∧ w.cell? ((⟨g, 0, none⟩ : Addr).add z.toNat) = some (K3 s) := by
 obtain ⟨k, rfl⟩ : ∃ k : Nat, z = (k : Int) := ⟨z.toNat, by omega⟩
 have hl := h.1
 have hk := (List.getElem?_eq_some_iff.1 hs).1
 refine ⟨Kr (k := k) (elem := 9) Zk Zk Zo, ?_⟩
 obtain ⟨ad, q1, q2⟩ := h.2 _ s hs
 cases q1
 exact q2
theorem rnames_m : Calls Tryz.prog 200 #[] w (K5 w (fun y : Nat => .slice (some ⟨y, 0, none⟩) 13 13) fun y u => Kj u (some ⟨y, 0, none⟩) 13 Ms) := by
 refine K0.enter Tryz.func200 rfl ?_
 refine ZR ?_
 refine K0.make (Ks (64) 13 #[(0, K3 [110, 111, 114, 109, 97, 108]), (1, K3 [109, 117, 108, 116, 105, 112, 108, 121]), (2, K3 [115, 99, 114, 101, 101, 110]), (3, K3 [111, 118, 101, 114, 108, 97, 121]), (4, K3 [100, 97, 114, 107, 101, 110]), (5, K3 [108, 105, 103, 104, 116, 101, 110]), (6, K3 [100, 105, 102, 102, 101, 114, 101, 110, 99, 101]), (7, K3 [101, 120, 99, 108, 117, 115, 105, 111, 110]), (8, K3 [104, 97, 114, 100, 108, 105, 103, 104, 116]), (9, K3 [104, 117, 101]), (10, K3 [115, 97, 116, 117, 114, 97, 116, 105, 111, 110]), (11, K3 [99, 111, 108, 111, 114]), (12, K3 [108, 117, 109, 105, 110, 111, 115, 105, 116, 121])]) (Kb 13) (Kp 9 (sv Ms).toArray) Zk (fun w1 hw h => K8 Zk) (fun y => ?_)
 refine ZR ?_
 refine ZV (.slice (some ⟨y, 0, none⟩) 13 13) (fun w1 hw h => ⟨y, rfl, hw, fun w'' k1 k2 => L3 (h w'' k1 k2).2 rfl⟩)
theorem rmodeName_v (hm : Rk x = true) : Calls Tryz.prog 143 #[.int .i64 x] w (K5 w (fun _ : Unit => K3 (Kd Ms 1 x)) fun _ _ => True) := by
 have hr : 1 ≤ x ∧ x ≤ 13 := by unfold Rk at hm; rw [Bool.and_eq_true, decide_eq_true_iff, decide_eq_true_iff] at hm; omega
 have hs : Ms[(x - 1).toNat]? = some (Kd Ms 1 x) := by
  have t := Se (pre := []) (l := Ms) (f := 0) (z := x - 1) rfl ⟨by omega, by show _ < (0 : Int) + (13 : Nat); omega⟩
  rw [List.nil_append] at t
  rw [t]; unfold Kd; rw [Int.sub_zero]
 refine K0.enter Tryz.func143 rfl ?_
 refine ZR ?_
 refine ZC (fun w1 hw h => rmode_v (x := x)) fun u => ?_
 refine ZJ ((!Rk x)) false (by rw [hm]; rfl) ?_
 refine ZD 3 (fun w1 hw h => rnames_m) fun y => ?_
 refine K0.slot 8 (.int .i64 (IntKind.i64.wrap (x - 1))) (.int .i64 (x - 1)) Zk (by rw [IntWalk.i64_in _ Zo]) ?_
 refine K0.ask (Ke 64 (.slice (some ⟨y, 0, none⟩) 13 13) (x - 1)) (.pointer (some ((⟨y, 0, none⟩ : Addr).add (x - 1).toNat))) Zk (fun w1 hw h => (Pp h.2 hs Zo).1) ?_
 refine ZS 4 ?_
 refine ZA (L7 9 ((⟨y, 0, none⟩ : Addr).add (x - 1).toNat)) (K3 (Kd Ms 1 x)) (fun w1 hw h => K9 Zk (Pp (c := 13) h.2 hs Zo).2) ?_
 exact ZW (K3 (Kd Ms 1 x))
theorem modeW_snoc {k : Nat} (hk : k < 13) : Ms.take (k + 1) = Ms.take k ++ [Kd Ms 1 (1 + k : Nat)] := by
 have t := Se (pre := [[]]) (l := Ms) (f := 1) (z := ((1 + k : Nat) : Int)) rfl ⟨by omega, by show _ < (1 : Int) + (13 : Nat); omega⟩
 rw [show ((1 + k : Nat) : Int).toNat = [([] : List UInt8)].length + k by simp; omega, List.getElem?_append_right Zo, Nat.add_sub_cancel_left] at t
 exact S1 t
theorem modes_m : Calls Tryz.prog 82 #[] w (K5 w (fun y : Nat × Nat => .slice (some ⟨y.1, 0, none⟩) 14 y.2) fun y u => Kj u (some ⟨y.1, 0, none⟩) 14 ([] :: Ms)) := by
 refine K0.enter Tryz.func82 rfl ?_
 refine ZR ?_
 refine K0.make (Ks 64 1 #[(0, K3 [])]) (Kb 1) (fun g u => K7 u w.heap.size 9 1 (some ⟨g, 0, none⟩) 1 1 (sv [[]])) Zk (fun w1 hw h => Uu (cells := #[K3 []]) Zk hw.size rfl Zd) (fun gb => ?_)
 refine ZR ?_
 refine K0.loop (ι := {p : Nat × (Option Addr × Nat) // p.1 ≤ 13}) 14 (fun p => ⟨[(1, .v (.slice p.1.2.1 (1 + p.1.1) p.1.2.2)), (2, .v (.int .i64 (1 + p.1.1 : Nat)))], []⟩) (fun p u => K7 u w.heap.size 9 1 p.1.2.1 (1 + p.1.1) p.1.2.2 (sv ([] :: Ms.take p.1.1))) (fun p => 13 - p.1.1) (⟨(0, (some ⟨gb, 0, none⟩, 1)), Nat.zero_le _⟩) Zk (fun _ => by kernel_rfl) ⟨Zk, Zk, Zk⟩ (fun u h => h.2) ?_
 rintro ⟨⟨k, z⟩, hk⟩ gg
 have hk : k ≤ 13 := hk
 by_cases hlt : k < 13
 case neg =>
  obtain rfl : k = 13 := by omega
  refine ZR ?_
  refine ZJ (decide (((1 + 13 : Nat) : Int) ≤ 13)) false Zd ?_
  refine K0.leave Zk ?_
  refine ZR ?_
  refine K0.pure_ (p := ∃ g : Nat, z.1 = some ⟨g, 0, none⟩) (fun w1 hw h => by obtain ⟨g, e, _⟩ := (show K7 w1 w.heap.size 9 1 z.1 (1 + 13) z.2 (sv ([] :: Ms.take 13)) from h).cells Zd; exact ⟨g, e⟩) Zk (fun hg => ?_)
  obtain ⟨g, hg⟩ := hg
  refine ZV (.slice z.1 (1 + 13) z.2) (fun w1 hw h => ⟨(g, z.2), by rw [hg], hw, fun w'' k1 k2 => by have t := (show K7 w'' w.heap.size 9 1 z.1 (1 + 13) z.2 (sv ([] :: Ms.take 13)) from h w'' k1 k2).strs; rw [hg] at t; exact t⟩)
 refine ZR ?_
 refine ZJ (decide (((1 + k : Nat) : Int) ≤ 13)) true (decide_eq_true Zo) ?_
 refine ZC (fun w1 hw h => rmodeName_v (x := ((1 + k : Nat) : Int)) (by unfold Rk; rw [decide_eq_true Zo, decide_eq_true Zo]; rfl)) fun u => ?_
 refine K0.make (Ks (64) 1 #[(0, K3 (Kd Ms 1 (1 + k : Nat)))]) (Kb 1) (Kp 9 #[K3 (Kd Ms 1 (1 + k : Nat))]) Zk (fun w1 hw h => K8 Zk) (fun ga => ?_)
 refine ZS 4 ?_
 refine K0.mutOp (L := bl z.1) (val := fun (z : Option Addr × Nat) => .slice z.1 (1 + k + 1) z.2) (Φ' := fun (z : Option Addr × Nat) v => K7 v w.heap.size 9 1 z.1 (1 + k + 1) z.2 (sv ([] :: Ms.take (k + 1)))) (G := fun (z : Option Addr × Nat) v => K7 v w.heap.size 9 1 z.1 (1 + k + 1) z.2 (sv ([] :: Ms.take (k + 1)))) (Lh 64 64 (.slice z.1 (1 + k) z.2) (Kb 1 ga)) (fun w1 hw h => by have t := pw_step (m := 1 + k) (a := Kd Ms 1 (1 + k : Nat)) h.1.1 hw.size h.2 Zo; rw [List.cons_append, ← modeW_snoc hlt] at t; exact t) (fun u h => h.1.1.blk) (fun _ wa u e1 e2 h hG => hG) Zk Zk (fun z2 => ?_)
 refine ZR ?_
 refine K0.slot 2 (.int .i64 (IntKind.i64.wrap (((1 + k : Nat) : Int) + 1))) (.int .i64 ((1 + (k + 1) : Nat) : Int)) Zk (by rw [IntWalk.i64_in _ Zo]; congr 1) ?_
 refine K0.next (⟨(k + 1, z2), by show k + 1 ≤ 13; omega⟩) Zk (by show 13 - (k + 1) < 13 - k; omega) ⟨Zk, Zk, Zk⟩ (fun u h => h)
theorem rules_m : Calls Tryz.prog 49 #[] w (K5 w (fun y : Nat => .slice (some ⟨y, 0, none⟩) 3 3) fun y u => Kj u (some ⟨y, 0, none⟩) 3 ([] :: Lq)) := by
 refine K0.enter Tryz.func49 rfl ?_
 refine ZR ?_
 refine K0.make (Ks (64) 3 #[(0, K3 []), (1, K3 [110, 111, 110, 122, 101, 114, 111]), (2, K3 [101, 118, 101, 110, 111, 100, 100])]) (Kb 3) (Kp 9 (sv ([] :: Lq)).toArray) Zk (fun w1 hw h => K8 Zk) (fun y => ?_)
 refine ZR ?_
 refine ZV (.slice (some ⟨y, 0, none⟩) 3 3) (fun w1 hw h => ⟨y, rfl, hw, fun w'' k1 k2 => L3 (h w'' k1 k2).2 rfl⟩)
theorem joins_m : Calls Tryz.prog 92 #[] w (K5 w (fun y : Nat => .slice (some ⟨y, 0, none⟩) 4 4) fun y u => Kj u (some ⟨y, 0, none⟩) 4 ([] :: R7)) := by
 refine K0.enter Tryz.func92 rfl ?_
 refine ZR ?_
 refine K0.make (Ks (64) 4 #[(0, K3 []), (1, K3 [109, 105, 116, 101, 114]), (2, K3 [98, 101, 118, 101, 108]), (3, K3 [114, 111, 117, 110, 100])]) (Kb 4) (Kp 9 (sv ([] :: R7)).toArray) Zk (fun w1 hw h => K8 Zk) (fun y => ?_)
 refine ZR ?_
 refine ZV (.slice (some ⟨y, 0, none⟩) 4 4) (fun w1 hw h => ⟨y, rfl, hw, fun w'' k1 k2 => L3 (h w'' k1 k2).2 rfl⟩)
theorem caps_m : Calls Tryz.prog 93 #[] w (K5 w (fun y : Nat => .slice (some ⟨y, 0, none⟩) 6 6) fun y u => Kj u (some ⟨y, 0, none⟩) 6 ([] :: [] :: [] :: U1)) := by
 refine K0.enter Tryz.func93 rfl ?_
 refine ZR ?_
 refine K0.make (Ks (64) 6 #[(0, K3 []), (1, K3 []), (2, K3 []), (3, K3 [114, 111, 117, 110, 100]), (4, K3 [98, 117, 116, 116]), (5, K3 [115, 113, 117, 97, 114, 101])]) (Kb 6) (Kp 9 (sv ([] :: [] :: [] :: U1)).toArray) Zk (fun w1 hw h => K8 Zk) (fun y => ?_)
 refine ZR ?_
 refine ZV (.slice (some ⟨y, 0, none⟩) 6 6) (fun w1 hw h => ⟨y, rfl, hw, fun w'' k1 k2 => L3 (h w'' k1 k2).2 rfl⟩)
theorem boolField_v : Calls Tryz.prog 83 #[.bool B] w (K5 w (fun _ : Unit => K3 (Y9 B)) fun _ _ => True) := by
 cases B
 ·
  refine K0.enter Tryz.func83 rfl ?_
  refine ZR ?_
  refine ZI false ?_
  exact ZW (K3 [48])
 ·
  refine K0.enter Tryz.func83 rfl ?_
  refine ZR ?_
  refine ZI true ?_
  exact ZW (K3 [49])
theorem pathField_v {ls : List Sg} (hs : Yb w A n ls) (hB : Pv ls = true) : Calls Tryz.prog 50 #[.slice A n c] w (K5 w (fun _ : Unit => K3 (N9 ls)) fun _ _ => True) := by
 refine K0.enter Tryz.func50 rfl ?_
 refine ZR ?_
 refine ZC (fun w1 hw h => rformat_s (c := c) (hs.below hw) hB) fun u => ?_
 exact ZW (K3 (N9 ls))
theorem headFields_m (hp : NRd N q K w) (hv : Lj N = true) (hl : N.im.px.length ≤ 20000) : Calls Tryz.prog 47 #[noV N q] w (K5 w (fun y : Option Addr × Nat => Pe (Kz N, y)) fun y u => Kj u y.1 (Kz N).length (Kz N)) := by
 obtain ⟨hk, hid, hdep, _, _, _, _, how⟩ := Uq hv
 unfold ownB at how
 refine K0.enter Tryz.func47 rfl ?_
 refine ZR ?_
 refine ZC (fun w1 hw h => L6 (n := N.id) Zo Zo) fun u0 => ?_
 refine ZC (fun w1 hw h => L6 (n := N.dep) Zo Zo) fun u1 => ?_
 by_cases k1 : N.kind = 1
 ·rw [if_pos k1] at how
  have e : Kz N = [[103, 114, 111, 117, 112], K6 N.id, K6 N.dep, K6 (N.op.toNat : Int), Kd Ms 1 N.bl, Y9 N.iso, Y9 N.ko] := by unfold Kz; rw [if_pos k1]
  have hop := op_rng N.op
  have hr : 1 ≤ N.bl ∧ N.bl ≤ 13 := by unfold Rk at how; rw [Bool.and_eq_true, decide_eq_true_iff, decide_eq_true_iff] at how; omega
  have hs := Se (pre := [[]]) (l := Ms) (f := 1) (z := N.bl) rfl ⟨by omega, by show _ < (1 : Int) + (13 : Nat); omega⟩
  rw [e]
  refine K0.condr ((N.kind == 1)) true Zk (beq_iff_eq.2 k1) ?_
  refine ZS 5 ?_
  refine ZT 20 (.int .i64 (IntKind.i64.wrap (N.op.toNat : Int))) (.int .i64 (N.op.toNat : Int)) (by rw [IntWalk.i64_in _ Zo]) ?_
  refine ZD 9 (fun w1 hw h => L6 (n := (N.op.toNat : Int)) Zo Zo) fun u2 => ?_
  refine ZD 9 (fun w1 hw h => modes_m) fun mo => ?_
  refine K0.askAt 9 (Ke 64 (.slice (some ⟨mo.1, 0, none⟩) 14 mo.2) N.bl) (.pointer (some ((⟨mo.1, 0, none⟩ : Addr).add N.bl.toNat))) Zk (fun w1 hw h => (Pp h.2 hs Zo).1) ?_
  refine ZS 10 ?_
  refine K0.askAt 10 (L7 9 ((⟨mo.1, 0, none⟩ : Addr).add N.bl.toNat)) (K3 (Kd Ms 1 N.bl)) Zk (fun w1 hw h => K9 Zk (Pp (c := mo.2) h.2 hs Zo).2) ?_
  refine ZS 17 ?_
  refine ZD 17 (fun w1 hw h => boolField_v (B := N.iso)) fun u4 => ?_
  refine ZD 17 (fun w1 hw h => boolField_v (B := N.ko)) fun u5 => ?_
  refine K0.make (Ks (64) 7 #[(0, K3 [103, 114, 111, 117, 112]), (1, K3 (K6 N.id)), (2, K3 (K6 N.dep)), (3, K3 (K6 (N.op.toNat : Int))), (4, K3 (Kd Ms 1 N.bl)), (5, K3 (Y9 N.iso)), (6, K3 (Y9 N.ko))]) (Kb 7) (Kp 9 #[K3 [103, 114, 111, 117, 112], K3 (K6 N.id), K3 (K6 N.dep), K3 (K6 (N.op.toNat : Int)), K3 (Kd Ms 1 N.bl), K3 (Y9 N.iso), K3 (Y9 N.ko)]) Zk (fun w1 hw h => K8 Zk) (fun gb => ?_)
  refine ZR ?_
  refine ZV (.slice (some ⟨gb, 0, none⟩) 7 7) (fun w1 hw h => ⟨(some ⟨gb, 0, none⟩, 7), rfl, hw, fun w'' k1 k2 => L3 (h w'' k1 k2).2 rfl⟩)
 rw [if_neg k1] at how
 refine ZJ ((N.kind == 1)) false (beq_eq_false_iff_ne.2 k1) ?_
 by_cases k2 : N.kind = 2
 ·rw [if_pos k2] at how
  unfold U7 at how
  simp only [Bool.and_eq_true] at how
  have e : Kz N = [[115, 104, 97, 112, 101], K6 N.id, K6 N.dep, Kd Lq 1 N.frule, N9 N.path] := by unfold Kz; rw [if_neg k1, if_pos k2]
  have hr := rule_rng how.2.1
  have hs := Se (pre := [[]]) (l := Lq) (f := 1) (z := N.frule) rfl hr
  rw [e]
  refine ZJ ((N.kind == 2)) true (beq_iff_eq.2 k2) ?_
  refine ZD 5 (fun w1 hw h => rules_m) fun ru => ?_
  refine K0.askAt 5 (Ke 64 (.slice (some ⟨ru, 0, none⟩) 3 3) N.frule) (.pointer (some ((⟨ru, 0, none⟩ : Addr).add N.frule.toNat))) Zk (fun w1 hw h => (Pp h.2 hs Zo).1) ?_
  refine ZS 6 ?_
  refine K0.askAt 6 (L7 9 ((⟨ru, 0, none⟩ : Addr).add N.frule.toNat)) (K3 (Kd Lq 1 N.frule)) Zk (fun w1 hw h => K9 Zk (Pp (c := 3) h.2 hs Zo).2) ?_
  refine ZS 10 ?_
  refine ZD 10 (fun w1 hw h => pathField_v (c := q.pac) (hp.pa.below hw) how.1) fun u3 => ?_
  refine K0.make (Ks (64) 5 #[(0, K3 [115, 104, 97, 112, 101]), (1, K3 (K6 N.id)), (2, K3 (K6 N.dep)), (3, K3 (Kd Lq 1 N.frule)), (4, K3 (N9 N.path))]) (Kb 5) (Kp 9 #[K3 [115, 104, 97, 112, 101], K3 (K6 N.id), K3 (K6 N.dep), K3 (Kd Lq 1 N.frule), K3 (N9 N.path)]) Zk (fun w1 hw h => K8 Zk) (fun gb => ?_)
  refine ZR ?_
  refine ZV (.slice (some ⟨gb, 0, none⟩) 5 5) (fun w1 hw h => ⟨(some ⟨gb, 0, none⟩, 5), rfl, hw, fun w'' k1 k2 => L3 (h w'' k1 k2).2 rfl⟩)
 rw [if_neg k2, Bool.and_eq_true] at how
 obtain ⟨L1, hL1⟩ : ∃ L : WS, L = [[105, 109, 97, 103, 101], K6 N.id, K6 N.dep, Kd P5 1 N.samp] := ⟨_, rfl⟩
 have hL4 : L1.length = 4 := by rw [hL1]; rfl
 have e : Kz N = L1 ++ Xy N.im := by unfold Kz; rw [if_neg k1, if_neg k2, hL1]
 have hi := im_rng how.1
 have hs : N.samp = 1 ∨ N.samp = 2 := by
  have := how.2
  simp only [Bool.not_eq_true', Bool.and_eq_false_iff, bne_eq_false_iff_eq] at this
  exact this
 have hsm := Se (pre := [[]]) (l := P5) (f := 1) (z := N.samp) rfl ⟨by omega, by show _ < (1 : Int) + (2 : Nat); omega⟩
 have el : (L1 ++ Xy N.im).length = 4 + 3 := by rw [List.length_append, hL4]; rfl
 unfold Pe
 rw [e, el]
 refine ZJ ((N.kind == 2)) false (beq_eq_false_iff_ne.2 k2) ?_
 refine ZD 5 (fun w1 hw h => samplings_m) fun sa => ?_
 refine K0.askAt 5 (Ke 64 (.slice (some ⟨sa, 0, none⟩) 3 3) N.samp) (.pointer (some ((⟨sa, 0, none⟩ : Addr).add N.samp.toNat))) Zk (fun w1 hw h => (Pp h.2 hsm Zo).1) ?_
 refine ZS 6 ?_
 refine K0.askAt 6 (L7 9 ((⟨sa, 0, none⟩ : Addr).add N.samp.toNat)) (K3 (Kd P5 1 N.samp)) Zk (fun w1 hw h => K9 Zk (Pp (c := 3) h.2 hsm Zo).2) ?_
 refine ZS 7 ?_
 refine K0.make (Ks (64) 4 #[(0, K3 [105, 109, 97, 103, 101]), (1, K3 (K6 N.id)), (2, K3 (K6 N.dep)), (3, K3 (Kd P5 1 N.samp))]) (Kb 4) (Kp 9 #[K3 [105, 109, 97, 103, 101], K3 (K6 N.id), K3 (K6 N.dep), K3 (Kd P5 1 N.samp)]) Zk (fun w1 hw h => K8 Zk) (fun gb => ?_)
 refine ZR ?_
 refine ZD 4 (fun w1 hw h => Ze (y := (q.pxA, q.pxc)) (hp.px.below hw) hl hi.1 hi.2) fun y => ?_
 refine K0.make (Lh 64 64 (Kb 4 gb) (.slice (some ⟨y, 0, none⟩) 3 3)) (fun y : Option Addr × Nat => .slice y.1 (4 + 3) y.2) (fun y v => K7 v w.heap.size 9 1 y.1 (4 + 3) y.2 (sv (L1 ++ Xy N.im))) Zk (fun w1 hw h => O4 (p := L1) (l := Xy N.im) (by rw [hL1]; exact h.1.2) hL4 h.2 Zd Zd hw.size) (fun z => ?_)
 refine ZR ?_
 refine ZV (.slice z.1 (4 + 3) z.2) (fun w1 hw h => ⟨z, by show _ = Ending.returned (.slice z.1 (L1 ++ Xy N.im).length z.2); rw [el], hw, fun w'' k1 k2 => (h w'' k1 k2).2.strs⟩)
def R2 (S : Sty) : WS := [115, 116, 114, 111, 107, 101] :: penH S
theorem strokeW_eq {P : Pn} : Km S P = (R2 S ++ S.d.map K6) ++ O1 P := by unfold Km R2; rw [penW_eq]; simp
theorem strokeW_len {P : Pn} : (Km S P).length = 7 + S.d.length + (O1 P).length := by rw [strokeW_eq, List.length_append, List.length_append, List.length_map]; rfl
theorem strokeFields_m {P : Pn} (hp : NRd N q K w) (hP : N.stroke[0]? = some P) (hf : P.im.px.length ≤ 20000) (hS : P4 N.sty = true) (hv : Kt P = true) (hK : 2 ≤ K ∧ K ≤ 1000) : Calls Tryz.prog 52 #[noV N q] w (K5 w (fun y : Option Addr × Nat => Pe (Km N.sty P, y)) fun y u => Kj u y.1 (Km N.sty P).length (Km N.sty P)) := by
 obtain ⟨h1, h2, h3, h4, h5, h6⟩ := sty_rng hS
 obtain ⟨hdr, hdl⟩ := dash_rng h6
 have hps := Vi hv
 have hj := Se (pre := [[]]) (l := R7) (f := 1) (z := N.sty.j) rfl h2
 have hc := Se (pre := [[], [], []]) (l := U1) (f := 3) (z := N.sty.c) rfl h3
 obtain ⟨p, hx2, hrd⟩ := hp.st.get hP
 obtain ⟨ad, hA, hce⟩ := hp.st.row.2 0 _ hx2
 have hsl : 0 < N.stroke.length := (List.getElem?_eq_some_iff.1 hP).1
 refine K0.enter Tryz.func52 rfl ?_
 refine ZR ?_
 refine ZC (fun w1 hw h => L6 (n := N.sty.w) Zo Zo) fun u0 => ?_
 refine ZD 6 (fun w1 hw h => joins_m) fun jo => ?_
 refine K0.askAt 6 (Ke 64 (.slice (some ⟨jo, 0, none⟩) 4 4) N.sty.j) (.pointer (some ((⟨jo, 0, none⟩ : Addr).add N.sty.j.toNat))) Zk (fun w1 hw h => (Pp h.2 hj Zo).1) ?_
 refine ZS 7 ?_
 refine K0.askAt 7 (L7 9 ((⟨jo, 0, none⟩ : Addr).add N.sty.j.toNat)) (K3 (Kd R7 1 N.sty.j)) Zk (fun w1 hw h => K9 Zk (Pp (c := 4) h.2 hj Zo).2) ?_
 refine ZS 11 ?_
 refine ZD 11 (fun w1 hw h => caps_m) fun ca => ?_
 refine K0.askAt 11 (Ke 64 (.slice (some ⟨ca, 0, none⟩) 6 6) N.sty.c) (.pointer (some ((⟨ca, 0, none⟩ : Addr).add N.sty.c.toNat))) Zk (fun w1 hw h => (Pp h.2 hc Zo).1) ?_
 refine ZS 12 ?_
 refine K0.askAt 12 (L7 9 ((⟨ca, 0, none⟩ : Addr).add N.sty.c.toNat)) (K3 (Kd U1 3 N.sty.c)) Zk (fun w1 hw h => K9 Zk (Pp (c := 6) h.2 hc Zo).2) ?_
 refine ZS 23 ?_
 refine ZD 23 (fun w1 hw h => L6 (n := N.sty.m) Zo Zo) fun u3 => ?_
 refine ZD 23 (fun w1 hw h => L6 (n := N.sty.p) Zo Zo) fun u4 => ?_
 refine ZD 23 (fun w1 hw h => L6 (n := (N.sty.d.length : Int)) Zo Zo) fun u5 => ?_
 refine K0.make (Ks 64 7 #[(0, K3 [115, 116, 114, 111, 107, 101]), (1, K3 (K6 N.sty.w)), (2, K3 (Kd R7 1 N.sty.j)), (3, K3 (Kd U1 3 N.sty.c)), (4, K3 (K6 N.sty.m)), (5, K3 (K6 N.sty.p)), (6, K3 (K6 (N.sty.d.length : Int)))]) (Kb 7) (fun g u => K7 u w.heap.size 9 1 (some ⟨g, 0, none⟩) 7 7 (sv (R2 N.sty))) Zk (fun w1 hw h => Uu (s := 1) (cells := (sv (R2 N.sty)).toArray) Zk hw.size rfl Zd) (fun gb => ?_)
 refine ZR ?_
 refine K0.loop (ι := {p : Nat × (Option Addr × Nat) // p.1 ≤ N.sty.d.length}) 55 (fun p => ⟨[(1, .p 1 0), (3, .p 3 0), (4, .v (.slice p.1.2.1 (7 + p.1.1) p.1.2.2)), (5, .v (.int .i64 p.1.1))], [(1, (noC N q).map .v), (3, [.v (.int .i64 N.sty.w), .v (.int .i64 N.sty.j), .v (.int .i64 N.sty.c), .v (.int .i64 N.sty.m), .v (.slice q.daA N.sty.d.length q.dac), .v (.int .i64 N.sty.p)])]⟩) (fun p u => K7 u w.heap.size 9 1 p.1.2.1 (7 + p.1.1) p.1.2.2 (sv (R2 N.sty ++ (N.sty.d.take p.1.1).map K6))) (fun p => N.sty.d.length - p.1.1) (⟨(0, (some ⟨gb, 0, none⟩, 7)), Nat.zero_le _⟩) Zk (fun _ => by kernel_rfl) ⟨Zk, Zk, Zk⟩ (fun u h => by show K7 u _ _ 1 _ 7 7 (sv (R2 N.sty ++ [])); rw [List.append_nil]; exact h.2) ?_
 rintro ⟨⟨k, z⟩, hk⟩ gg
 have hk : k ≤ N.sty.d.length := hk
 by_cases hlt : k < N.sty.d.length
 case neg =>
  obtain rfl : k = N.sty.d.length := by omega
  refine ZR ?_
  refine ZJ (decide ((N.sty.d.length : Int) < (N.sty.d.length : Int))) false Zs ?_
  refine K0.leave Zk ?_
  refine ZR ?_
  refine ZA (Ke 40 (.slice q.stA N.stroke.length q.stc) (0 : Nat)) (.pointer (some (ad.add (0 * 40)))) (fun w1 hw h => Sb (k := 0) hA hsl) ?_
  refine ZA (L7 56 (ad.add (0 * 40))) (.agg (pC2 (P, p)).toArray) (fun w1 hw h => Tp fun j v hj => Ky hw (hce j v hj)) ?_
  refine ZD 6 (fun w1 hw h => Za (hrd.below hw) hv hK hf) fun wy => ?_
  refine K0.mutOp (L := bl z.1) (val := fun (z2 : Option Addr × Nat) => .slice z2.1 (7 + N.sty.d.length + (O1 P).length) z2.2) (Φ' := fun (z2 : Option Addr × Nat) v => K7 v w.heap.size 9 1 z2.1 (7 + N.sty.d.length + (O1 P).length) z2.2 (sv ((R2 N.sty ++ (N.sty.d.take N.sty.d.length).map K6) ++ O1 P))) (G := fun (z2 : Option Addr × Nat) v => K7 v w.heap.size 9 1 z2.1 (7 + N.sty.d.length + (O1 P).length) z2.2 (sv ((R2 N.sty ++ (N.sty.d.take N.sty.d.length).map K6) ++ O1 P))) (Lh 64 64 (.slice z.1 (7 + N.sty.d.length) z.2) (.slice wy.1 (O1 P).length wy.2)) (fun w1 hw h => Me (m := 7 + N.sty.d.length) h.1 hw.size h.2 Zo) (fun u h => h.1.blk) (fun _ wa u e1 e2 h hG => hG) Zk Zk (fun z2 => ?_)
  refine ZR ?_
  refine ZV (.slice z2.1 (7 + N.sty.d.length + (O1 P).length) z2.2) (fun w1 hw h => ⟨z2, by show _ = Ending.returned (.slice z2.1 (Km N.sty P).length z2.2); rw [strokeW_len], hw, fun w'' k1 k2 => by rw [strokeW_len, strokeW_eq]; have t := (show K7 w'' w.heap.size 9 1 z2.1 (7 + N.sty.d.length + (O1 P).length) z2.2 (sv ((R2 N.sty ++ (N.sty.d.take N.sty.d.length).map K6) ++ O1 P)) from h w'' k1 k2).strs; rw [List.take_length] at t; exact t⟩)
 obtain ⟨v, hx⟩ : ∃ v, N.sty.d[k]? = some v := ⟨_, List.getElem?_eq_getElem hlt⟩
 obtain ⟨ad2, hA2, hc2⟩ := hp.da.2 k v hx
 have hvr := hdr v (List.mem_of_getElem? hx)
 refine ZR ?_
 refine ZJ (decide ((k : Int) < (N.sty.d.length : Int))) true Zp ?_
 refine ZA (Ke 41 (.slice q.daA N.sty.d.length q.dac) k) (.pointer (some (ad2.add k))) (fun w1 hw h => by rw [hA2]; exact Kr (elem := 3) Zk Zk hlt) ?_
 refine ZA (L7 3 (ad2.add k)) (.int .i64 v) (fun w1 hw h => K9 Zk (by have := Ky hw (hc2 0 (.int .i64 v) rfl); rw [addadd, Nat.mul_one, Nat.add_zero] at this; exact this)) ?_
 refine ZD 7 (fun w1 hw h => L6 (n := v) Zo Zo) fun u => ?_
 refine K0.make (Ks (64) 1 #[(0, K3 (K6 v))]) (Kb 1) (Kp 9 #[K3 (K6 v)]) Zk (fun w1 hw h => K8 Zk) (fun ga => ?_)
 refine ZS 8 ?_
 refine K0.mutOp (L := bl z.1) (val := fun (z : Option Addr × Nat) => .slice z.1 (7 + (k + 1)) z.2) (Φ' := fun (z : Option Addr × Nat) v => K7 v w.heap.size 9 1 z.1 (7 + (k + 1)) z.2 (sv (R2 N.sty ++ (N.sty.d.take (k + 1)).map K6))) (G := fun (z : Option Addr × Nat) v => K7 v w.heap.size 9 1 z.1 (7 + (k + 1)) z.2 (sv (R2 N.sty ++ (N.sty.d.take (k + 1)).map K6))) (Lh 64 64 (.slice z.1 (7 + k) z.2) (Kb 1 ga)) (fun w1 hw h => by have t := pw_step (m := 7 + k) (a := K6 v) h.1.1 hw.size h.2 Zo; rw [List.append_assoc, ← dw_snoc hx] at t; exact t) (fun u h => h.1.1.blk) (fun _ wa u e1 e2 h hG => hG) Zk Zk (fun z2 => ?_)
 refine ZR ?_
 refine K0.slot 5 (.int .i64 (IntKind.i64.wrap ((k : Int) + 1))) (.int .i64 ((k + 1 : Nat) : Int)) Zk (by rw [Kc hlt Zo]) ?_
 refine K0.next (⟨(k + 1, z2), by show k + 1 ≤ N.sty.d.length; omega⟩) Zk (by show N.sty.d.length - (k + 1) < N.sty.d.length - k; omega) ⟨Zk, Zk, Zk⟩ (fun u h => h)
end
end
section
open Go.RowKit
--ATNAMES
section
variable {w u : World} {z x : Int} {A : Option Addr} {n c B : Nat} {N : Nd} {q : ND} {K : Nat} {S : Sc} {y : Option Addr × Nat} {L : List LR} {X : LR} {nl : List (Nd × ND)}
def rkA : List Nat := [4, 5, 6, 7, 8, 9, 10, 11, 12, 13, 14]
def rkB : List Nat := [15, 16, 17, 18, 19, 20, 21, 22, 23, 24, 25, 26, 27, 28, 29, 30]
def rkC : List Nat := [31, 32, 33, 34, 35, 36, 37, 38, 39, 40, 41, 42, 43, 44]
theorem strokes_one (h : N.stroke.length ≤ 1) {P : Pn} (hP : N.stroke[0]? = some P) : N.stroke = [P] := by
 obtain ⟨h1, h2⟩ := List.getElem?_eq_some_iff.1 hP
 obtain ⟨x, hx⟩ := List.length_eq_one_iff.1 (show N.stroke.length = 1 by omega)
 rw [hx] at hP ⊢; simpa using hP
theorem fills_one (h : N.fill.length ≤ 1) {P : Pn} (hP : N.fill[0]? = some P) : N.fill = [P] := by
 obtain ⟨h1, h2⟩ := List.getElem?_eq_some_iff.1 hP
 obtain ⟨x, hx⟩ := List.length_eq_one_iff.1 (show N.fill.length = 1 by omega)
 rw [hx] at hP ⊢; simpa using hP
theorem Mz.zero (h : Mz B y L u) : Mz 0 y L u := ⟨h.own.rebase fun _ _ => Nat.zero_le _, h.str, h.ne, h.apart⟩
theorem strokeA {P : Program} {f : FuncId} {args : Array Value} {W : WS} (hc : Calls P f args w (K5 w (fun y : Option Addr × Nat => Pe (W, y)) fun y u => Kj u y.1 W.length W)) (hr : Mz B y L w) (hW : W ≠ [] := by simp [Km]) :
 Calls P f args w (K5 w (fun y : Option Addr × Nat => Pe (W, y)) fun y2 u => Kj u y2.1 W.length W ∧ Apt y2.1 y L) :=
 hc.mono fun e w' h => h.aptR (fun y => bl y.1) (fun y u h b hb => strAt_blk h hW b hb) fun y hy => hr.apt hy
theorem nodeLines_m (hp : NRd N q K w) (hf : NFew N) (hv : Lj N = true) (hK : 2 ≤ K ∧ K ≤ 1000) :
 Calls Tryz.prog 22 #[noV N q] w (K5 w (fun p : {p : (Option Addr × Nat) × List LR // p.2.map (·.1) = Rg N} => .slice p.1.1.1 p.1.2.length p.1.1.2) fun p u => Mz 0 p.1.1 p.1.2 u) := by
 obtain ⟨hk, hid, hdep, hok, hclip, hcl, _, _⟩ := Uq hv
 obtain ⟨hn1, hfv, hsv, hsty⟩ := nd_paints hv
 have hcn := clipW_len (N := N)
 refine K0.enter Tryz.func22 rfl ?_
 refine ZR ?_
 refine K0.meet3 (ι := (Nat × (Option Addr × Nat) × (Option Addr × Nat)) × (Nat → AV)) (fun i c => Pj rkA i.2 (Ls 3 (Kb 2 i.1.1) (Lz Tryz.prog 1000 1000 (Li (.v (Kb 2 0)) (Lz Tryz.prog 1000 1000 (Li (.v (.slice none 7 7)) (Lz Tryz.prog 1000 1000 (Li (.v (.slice none 6 6)) (Lz Tryz.prog 1000 1000 (Li (.v (.slice none 1 1)) (Lz Tryz.prog 1000 1000 (V5 2 (Kb 1 0) c)))))))))))) (fun i u => Mz w.heap.size (some ⟨i.1.1, 0, none⟩, 2) [(Kz N, i.1.2.1), (Qq N, i.1.2.2)] u) (fun k => ?_) (fun i => ?_)
 ·
  refine K0.two (i := 1) (j := 2) Zk ?_ ?_
  ·
   refine O0.callv (i := 1) (fun w1 hw h => headFields_m (hp.below hw) hv hf.px) Zk (fun y1 => ?_)
   refine ZR ?_
   refine K0.two (i := 2) (j := 5) Zk ?_ ?_
   ·
    refine O0.make (i := 2) (Ks (64) 1 #[(0, K3 [116, 114, 97, 110, 115, 102, 111, 114, 109])]) (Kb 1) (Kp 9 #[K3 [116, 114, 97, 110, 115, 102, 111, 114, 109]]) Zk (fun w1 hw h => K8 Zk) (fun gb => ?_)
    refine ZR ?_
    refine ZD 6 (fun w1 hw h => Mt (hp.tr.below hw) hK) fun y2 => ?_
    refine K0.make (Lh 64 64 (Kb 1 gb) (.slice (some ⟨y2, 0, none⟩) 6 6)) (fun y : Option Addr × Nat => .slice y.1 (1 + 6) y.2) (fun y v => K7 v w.heap.size 9 1 y.1 (1 + 6) y.2 (sv ([[116, 114, 97, 110, 115, 102, 111, 114, 109]] ++ Lp N.T))) Zk (fun w1 hw h => O4 (p := [[116, 114, 97, 110, 115, 102, 111, 114, 109]]) (l := Lp N.T) h.1.2 rfl h.2 Zd Zd hw.size) (fun z => ?_)
    refine ZR ?_
    refine K0.make (Ks 66 2 #[(0, Pe (Kz N, y1)), (1, Pe (Qq N, z))]) (Kb 2) (fun g u => K7 u w.heap.size 64 1 (some ⟨g, 0, none⟩) 2 2 [Pe (Kz N, y1), Pe (Qq N, z)] ∧ ∀ x ∈ [((Kz N, y1) : LR), (Qq N, z)], ∀ b ∈ bl (some (⟨g, 0, none⟩ : Addr)), b ∉ bl x.2.1) Zk (fun w1 hw h => Yt (X1 := (Kz N, y1)) (X2 := (Qq N, z)) hw.size h.1.1.1.2 P6 h.2.strs (by simp [Qq])) (fun g => ?_)
    refine ZR ?_
    refine K0.weak Zk (fun u h => row2 (X1 := (Kz N, y1)) (X2 := (Qq N, z)) h.2.1 h.2.2 h.1.1.1.1.2 P6 h.1.2.strs (by simp [Qq])) ?_
    exact K0.blur rkA fun x => K0.eq (k ((g, y1, z), x)) Zk
   ·
    refine O0.callv (i := 5) (fun w1 hw h => Mt (hp.tr.below hw) hK) Zk (fun y2 => ?_)
    refine ZS 2 ?_
    refine K0.make (Ks (64) 1 #[(0, K3 [116, 114, 97, 110, 115, 102, 111, 114, 109])]) (Kb 1) (Kp 9 #[K3 [116, 114, 97, 110, 115, 102, 111, 114, 109]]) Zk (fun w1 hw h => K8 Zk) (fun gb => ?_)
    refine ZS 6 ?_
    refine K0.make (Lh 64 64 (Kb 1 gb) (.slice (some ⟨y2, 0, none⟩) 6 6)) (fun y : Option Addr × Nat => .slice y.1 (1 + 6) y.2) (fun y v => K7 v w.heap.size 9 1 y.1 (1 + 6) y.2 (sv ([[116, 114, 97, 110, 115, 102, 111, 114, 109]] ++ Lp N.T))) Zk (fun w1 hw h => O4 (p := [[116, 114, 97, 110, 115, 102, 111, 114, 109]]) (l := Lp N.T) h.2 rfl h.1.2 Zd Zd hw.size) (fun z => ?_)
    refine ZR ?_
    refine K0.make (Ks 66 2 #[(0, Pe (Kz N, y1)), (1, Pe (Qq N, z))]) (Kb 2) (fun g u => K7 u w.heap.size 64 1 (some ⟨g, 0, none⟩) 2 2 [Pe (Kz N, y1), Pe (Qq N, z)] ∧ ∀ x ∈ [((Kz N, y1) : LR), (Qq N, z)], ∀ b ∈ bl (some (⟨g, 0, none⟩ : Addr)), b ∉ bl x.2.1) Zk (fun w1 hw h => Yt (X1 := (Kz N, y1)) (X2 := (Qq N, z)) hw.size h.1.1.1.2 P6 h.2.strs (by simp [Qq])) (fun g => ?_)
    refine ZR ?_
    refine K0.weak Zk (fun u h => row2 (X1 := (Kz N, y1)) (X2 := (Qq N, z)) h.2.1 h.2.2 h.1.1.1.1.2 P6 h.1.2.strs (by simp [Qq])) ?_
    exact K0.blur rkA fun x => K0.eq (k ((g, y1, z), x)) Zk
  ·
   refine O0.make (i := 2) (Ks (64) 1 #[(0, K3 [116, 114, 97, 110, 115, 102, 111, 114, 109])]) (Kb 1) (Kp 9 #[K3 [116, 114, 97, 110, 115, 102, 111, 114, 109]]) Zk (fun w1 hw h => K8 Zk) (fun gb => ?_)
   refine ZR ?_
   refine ZC (fun w1 hw h => headFields_m (hp.below hw) hv hf.px) fun y1 => ?_
   refine ZD 6 (fun w1 hw h => Mt (hp.tr.below hw) hK) fun y2 => ?_
   refine K0.make (Lh 64 64 (Kb 1 gb) (.slice (some ⟨y2, 0, none⟩) 6 6)) (fun y : Option Addr × Nat => .slice y.1 (1 + 6) y.2) (fun y v => K7 v w.heap.size 9 1 y.1 (1 + 6) y.2 (sv ([[116, 114, 97, 110, 115, 102, 111, 114, 109]] ++ Lp N.T))) Zk (fun w1 hw h => O4 (p := [[116, 114, 97, 110, 115, 102, 111, 114, 109]]) (l := Lp N.T) h.1.1.2 rfl h.2 Zd Zd hw.size) (fun z => ?_)
   refine ZR ?_
   refine K0.make (Ks 66 2 #[(0, Pe (Kz N, y1)), (1, Pe (Qq N, z))]) (Kb 2) (fun g u => K7 u w.heap.size 64 1 (some ⟨g, 0, none⟩) 2 2 [Pe (Kz N, y1), Pe (Qq N, z)] ∧ ∀ x ∈ [((Kz N, y1) : LR), (Qq N, z)], ∀ b ∈ bl (some (⟨g, 0, none⟩ : Addr)), b ∉ bl x.2.1) Zk (fun w1 hw h => Yt (X1 := (Kz N, y1)) (X2 := (Qq N, z)) hw.size h.1.1.2 P6 h.2.strs (by simp [Qq])) (fun g => ?_)
   refine ZR ?_
   refine K0.weak Zk (fun u h => row2 (X1 := (Kz N, y1)) (X2 := (Qq N, z)) h.2.1 h.2.2 h.1.1.1.2 P6 h.1.2.strs (by simp [Qq])) ?_
   exact K0.blur rkA fun x => K0.eq (k ((g, y1, z), x)) Zk
 obtain ⟨⟨g, y1, y2⟩, x0⟩ := i
 refine K0.meet3 (ι := {p : (Option Addr × Nat) × List LR // p.2.map (·.1) = Rn N ++ Re N} × (Nat → AV)) (fun i c => Pj rkB i.2 (Ls 3 (.slice i.1.1.1.1 i.1.1.2.length i.1.1.1.2) (Lz Tryz.prog 1000 1000 (amIf false c)))) (fun i u => Mz w.heap.size i.1.1.1 i.1.1.2 u) (fun k2 => ?_) (fun i => ?_)
 ·by_cases hc : N.clip.length = 0
  ·
   refine ZJ (decide ((N.clip.length : Int) > 0)) false (decide_eq_false Zo) ?_
   exact K0.blur rkB fun x => K0.eq (k2 (⟨((some ⟨g, 0, none⟩, 2), [(Kz N, y1), (Qq N, y2)]), by unfold Re; rw [if_pos hc]; rfl⟩, x)) Zk
  ·have hr := rule_rng (x := N.crule) (by unfold Py at hcl; rw [if_neg hc] at hcl; exact hcl)
   have hs := Se (pre := [[]]) (l := Lq) (f := 1) (z := N.crule) rfl hr
   refine ZJ (decide ((N.clip.length : Int) > 0)) true (decide_eq_true Zo) ?_
   refine ZD 4 (fun w1 hw h => rules_m) fun ru => ?_
   refine K0.askAt 4 (Ke 64 (.slice (some ⟨ru, 0, none⟩) 3 3) N.crule) (.pointer (some ((⟨ru, 0, none⟩ : Addr).add N.crule.toNat))) Zk (fun w1 hw h => (Pp h.2 hs Zo).1) ?_
   refine ZS 5 ?_
   refine K0.askAt 5 (L7 9 ((⟨ru, 0, none⟩ : Addr).add N.crule.toNat)) (K3 (Kd Lq 1 N.crule)) Zk (fun w1 hw h => K9 Zk (Pp (c := 3) h.2 hs Zo).2) ?_
   refine ZS 9 ?_
   refine ZD 9 (fun w1 hw h => pathField_v (c := q.clc) (hp.cl.below hw) hclip) fun u2 => ?_
   refine K0.make (Ks 64 3 #[(0, K3 [99, 108, 105, 112]), (1, K3 (Kd Lq 1 N.crule)), (2, K3 (N9 N.clip))]) (Kb 3) (fun ga u => Kj u (some ⟨ga, 0, none⟩) 3 [[99, 108, 105, 112], Kd Lq 1 N.crule, N9 N.clip] ∧ Apt (some ⟨ga, 0, none⟩) (some ⟨g, 0, none⟩, 2) [(Kz N, y1), (Qq N, y2)]) Zk (fun w1 hw h => make_wsA (cells := #[K3 [99, 108, 105, 112], K3 (Kd Lq 1 N.crule), K3 (N9 N.clip)]) Zk rfl rfl h.1.1) (fun ga => ?_)
   refine ZR ?_
   refine K0.make (Ks 66 1 #[(0, Pe ([[99, 108, 105, 112], Kd Lq 1 N.crule, N9 N.clip], (some ⟨ga, 0, none⟩, 3)))]) (Kb 1) (Kp 64 #[Pe ([[99, 108, 105, 112], Kd Lq 1 N.crule, N9 N.clip], (some ⟨ga, 0, none⟩, 3))]) Zk (fun w1 hw h => K8 Zk) (fun gb => ?_)
   refine ZS 11 ?_
   refine K0.mutAny (L := bl (some (⟨g, 0, none⟩ : Addr))) (val := fun (z : Option Addr × Nat) => .slice z.1 (2 + 1) z.2) (Φ' := fun (z : Option Addr × Nat) u => Mz w.heap.size z [(Kz N, y1), (Qq N, y2), ([[99, 108, 105, 112], Kd Lq 1 N.crule, N9 N.clip], (some ⟨ga, 0, none⟩, 3))] u) (G := fun (z : Option Addr × Nat) v => K7 v w.heap.size 64 1 z.1 (2 + 1) z.2 [Pe (Kz N, y1), Pe (Qq N, y2), Pe ([[99, 108, 105, 112], Kd Lq 1 N.crule, N9 N.clip], (some ⟨ga, 0, none⟩, 3))] ∧ ∀ x ∈ [((Kz N, y1) : LR), (Qq N, y2), ([[99, 108, 105, 112], Kd Lq 1 N.crule, N9 N.clip], (some ⟨ga, 0, none⟩, 3))], ∀ b ∈ bl z.1, b ∉ bl x.2.1) (Lh 66 66 (.slice (some ⟨g, 0, none⟩) 2 2) (Kb 1 gb)) (fun w1 hw h => Td (y := (some ⟨g, 0, none⟩, 2)) (L := [(Kz N, y1), (Qq N, y2)]) (X := ([[99, 108, 105, 112], Kd Lq 1 N.crule, N9 N.clip], (some ⟨ga, 0, none⟩, 3))) h.1.1.1.1 hw.size h.1.2.1 Zs h.1.2.2 h.2 Zs) (fun u h => h.1.1.1.1.own.blk) (fun z wa u e1 e2 h hG => Mz.left (L := [(Kz N, y1), (Qq N, y2)]) (X := ([[99, 108, 105, 112], Kd Lq 1 N.crule, N9 N.clip], (some ⟨ga, 0, none⟩, 3))) h.1.1.1.1 h.1.2.1 Zs h.1.2.2 e2 hG) Zk Zk (fun z => ?_)
   refine ZR ?_
   exact K0.blur rkB fun x => K0.eq (k2 (⟨(z, [(Kz N, y1), (Qq N, y2), ([[99, 108, 105, 112], Kd Lq 1 N.crule, N9 N.clip], (some ⟨ga, 0, none⟩, 3))]), by unfold Re; rw [if_neg hc]; rfl⟩, x)) Zk
 obtain ⟨⟨⟨y, L⟩, hL⟩, x1⟩ := i
 have hL : L.map (·.1) = Rn N ++ Re N := hL
 have hLn : L.length ≤ 10 := by rw [Yu hL]; simp [Rn]; omega
 refine K0.meet3 (ι := {p : (Option Addr × Nat) × List LR // p.2.map (·.1) = (Rn N ++ Re N) ++ N.fill.map M8} × (Nat → AV)) (fun i c => Pj rkC i.2 (Ls 3 (.slice i.1.1.1.1 i.1.1.2.length i.1.1.1.2) (Lz Tryz.prog 1000 1000 (amIf false c)))) (fun i u => Mz w.heap.size i.1.1.1 i.1.1.2 u) (fun k3 => ?_) (fun i => ?_)
 ·by_cases h0 : N.fill.length = 0
  ·
   refine ZJ (decide ((N.fill.length : Int) > 0)) false (decide_eq_false Zo) ?_
   exact K0.blur rkC fun x => K0.eq (k3 (⟨(y, L), by show L.map (·.1) = _; rw [hL, List.length_eq_zero_iff.1 h0]; simp⟩, x)) Zk
  ·obtain ⟨P, hx⟩ : ∃ v, N.fill[0]? = some v := ⟨_, List.getElem?_eq_getElem Zo⟩
   obtain ⟨p, hx2, hrd⟩ := hp.fi.get hx
   obtain ⟨ad, hA, hc⟩ := hp.fi.row.2 0 _ hx2
   have hPm := List.mem_of_getElem? hx
   have hPv := hfv P hPm
   have hPf := hf.fi P hPm
   have hps := Vi hPv
   have hpn : 0 < (O1 P).length := pnW_pos hPv
   have eF : 1 + (O1 P).length = (M8 P).length := Nat.add_comm _ _
   refine K0.condr (decide ((N.fill.length : Int) > 0)) true Zk (decide_eq_true Zo) ?_
   refine ZS 1 ?_
   refine K0.make (Ks 64 1 #[(0, K3 [102, 105, 108, 108])]) (Kb 1) (Kp 9 #[K3 [102, 105, 108, 108]]) Zk (fun w1 hw h => K8 Zk) (fun gb => ?_)
   refine ZS 4 ?_
   refine K0.ask (Ke 40 (.slice q.fiA N.fill.length q.fic) (0 : Nat)) (.pointer (some (ad.add (0 * 40)))) Zk (fun w1 hw h => Sb (k := 0) hA Zo) ?_
   refine ZS 5 ?_
   refine K0.ask (L7 56 (ad.add (0 * 40))) (.agg (pC2 (P, p)).toArray) Zk (fun w1 hw h => Tp fun j v hj => Ky hw (hc j v hj)) ?_
   refine ZS 7 ?_
   refine ZD 7 (fun w1 hw h => Za (hrd.below hw) hPv hK hPf.1) fun wy => ?_
   refine K0.make (Lh 64 64 (Kb 1 gb) (.slice wy.1 (O1 P).length wy.2)) (fun z : Option Addr × Nat => .slice z.1 (1 + (O1 P).length) z.2) (fun z v => K7 v w.heap.size 9 1 z.1 (1 + (O1 P).length) z.2 (sv (M8 P)) ∧ Apt z.1 y L) Zk (fun w1 hw h => make_hd (p := [[102, 105, 108, 108]]) (l := O1 P) h.1.1 h.1.2 rfl h.2 hpn Zo hw.size) (fun z => ?_)
   refine ZR ?_
   refine K0.make (Ks 66 1 #[(0, .slice z.1 (1 + (O1 P).length) z.2)]) (Kb 1) (Kp 64 #[.slice z.1 (1 + (O1 P).length) z.2]) Zk (fun w1 hw h => K8 Zk) (fun ga => ?_)
   refine ZS 9 ?_
   have hX : ∀ v : World, K7 v w.heap.size 9 1 z.1 (1 + (O1 P).length) z.2 (sv (M8 P)) → Kj v z.1 (M8 P).length (M8 P) := fun v h => by have t := h.strs; rw [eF] at t; exact t
   have eX : Value.slice z.1 (1 + (O1 P).length) z.2 = Pe (M8 P, z) := by rw [eF]; rfl
   refine K0.mutOp (L := bl y.1) (val := fun (z2 : Option Addr × Nat) => .slice z2.1 (L.length + 1) z2.2) (Φ' := fun (z2 : Option Addr × Nat) u => Mz w.heap.size z2 (L ++ [(M8 P, z)]) u) (G := fun (z2 : Option Addr × Nat) v => K7 v w.heap.size 64 1 z2.1 (L.length + 1) z2.2 (L.map Pe ++ [Pe (M8 P, z)]) ∧ ∀ x ∈ L ++ [(M8 P, z)], ∀ b ∈ bl z2.1, b ∉ bl x.2.1) (Lh 66 66 (.slice y.1 L.length y.2) (Kb 1 ga)) (fun w1 hw h => Td (X := (M8 P, z)) h.1.1.1.1 hw.size (hX _ h.1.2.1) (by simp [M8]) h.1.2.2 (by rw [← eX]; exact h.2) Zo) (fun u h => h.1.1.1.1.own.blk) (fun z2 wa u e1 e2 h hG => Mz.left h.1.1.1.1 (hX _ h.1.2.1) (by simp [M8]) h.1.2.2 e2 hG) Zk Zk (fun z2 => ?_)
   refine ZR ?_
   refine K0.slot 3 (.slice z2.1 (L.length + 1) z2.2) (.slice z2.1 (L ++ [((M8 P, z) : LR)]).length z2.2) Zk (by rw [List.length_append]; rfl) ?_
   exact K0.blur rkC fun x => K0.eq (k3 (⟨(z2, L ++ [(M8 P, z)]), by show (L ++ [((M8 P, z) : LR)]).map (·.1) = _; rw [List.map_append, hL, fills_one hn1.1 hx]; rfl⟩, x)) Zk
 obtain ⟨⟨⟨y, L⟩, hL⟩, x2⟩ := i
 have hL : L.map (·.1) = (Rn N ++ Re N) ++ N.fill.map M8 := hL
 have hLn : L.length ≤ 10 := by rw [Yu hL]; simp [Rn]; omega
 by_cases h0 : N.stroke.length = 0
 ·
  refine ZJ (decide ((N.stroke.length : Int) > 0)) false (decide_eq_false Zo) ?_
  refine ZV (.slice y.1 L.length y.2) (fun w1 hw h => ⟨⟨(y, L), by show L.map (·.1) = _; rw [hL, lns_eq, List.length_eq_zero_iff.1 h0]; simp⟩, rfl, hw, fun w'' k1 k2 => Mz.zero (h w'' k1 k2)⟩)
 obtain ⟨P, hx⟩ : ∃ v, N.stroke[0]? = some v := ⟨_, List.getElem?_eq_getElem Zo⟩
 have hPm := List.mem_of_getElem? hx
 have hPf := hf.st P hPm
 refine K0.condr (decide ((N.stroke.length : Int) > 0)) true Zk (decide_eq_true Zo) ?_
 refine ZS 3 ?_
 refine ZD 3 (fun w1 hw h => strokeA (y := y) (L := L) (strokeFields_m (hp.below hw) hx hPf.1 (hsty h0) (hsv P hPm) hK) h) fun z => ?_
 refine K0.make (Ks 66 1 #[(0, Pe (Km N.sty P, z))]) (Kb 1) (Kp 64 #[Pe (Km N.sty P, z)]) Zk (fun w1 hw h => K8 Zk) (fun ga => ?_)
 refine ZS 4 ?_
 refine K0.mutOp (L := bl y.1) (val := fun (z2 : Option Addr × Nat) => .slice z2.1 (L.length + 1) z2.2) (Φ' := fun (z2 : Option Addr × Nat) u => Mz w.heap.size z2 (L ++ [(Km N.sty P, z)]) u) (G := fun (z2 : Option Addr × Nat) v => K7 v w.heap.size 64 1 z2.1 (L.length + 1) z2.2 (L.map Pe ++ [Pe (Km N.sty P, z)]) ∧ ∀ x ∈ L ++ [(Km N.sty P, z)], ∀ b ∈ bl z2.1, b ∉ bl x.2.1) (Lh 66 66 (.slice y.1 L.length y.2) (Kb 1 ga)) (fun w1 hw h => Td (X := (Km N.sty P, z)) h.1.1 hw.size h.1.2.1 (by simp [Km]) h.1.2.2 h.2 Zo) (fun u h => h.1.1.own.blk) (fun z2 wa u e1 e2 h hG => Mz.left h.1.1 h.1.2.1 (by simp [Km]) h.1.2.2 e2 hG) Zk Zk (fun z2 => ?_)
 refine ZR ?_
 refine K0.slot 2 (.slice z2.1 (L.length + 1) z2.2) (.slice z2.1 (L ++ [((Km N.sty P, z) : LR)]).length z2.2) Zk (by rw [List.length_append]; rfl) ?_
 refine ZV (.slice z2.1 (L ++ [((Km N.sty P, z) : LR)]).length z2.2) (fun w1 hw h => ⟨⟨(z2, L ++ [(Km N.sty P, z)]), by show (L ++ [((Km N.sty P, z) : LR)]).map (·.1) = _; rw [List.map_append, hL, lns_eq, strokes_one hn1.2 hx]; rfl⟩, rfl, hw, fun w'' k1 k2 => Mz.zero (h w'' k1 k2)⟩)
theorem rformat_no (hp : Yc w y.1 nl K S.nds) (hf : NFs S.nds) (hK : 2 ≤ K ∧ K ≤ 1000) (hcap : S.nds.length ≤ y.2) (hB : scOK S = false) : Calls Tryz.prog 7 #[soV S y] w (K5 w (fun _ : Unit => .tuple #[K3 [], .int .i64 18]) fun _ _ => True) := by
 refine K0.enter Tryz.func7 rfl ?_
 refine ZR ?_
 refine ZC (fun w1 hw h => rsvalid_v (y := y) (hp.below hw) hf hK hcap hB) fun u => ?_
 refine ZI true ?_
 exact ZW (.tuple #[K3 [], .int .i64 18])
theorem joinN_app (a b : List (List UInt8)) : Lw (a ++ b) = Lw a ++ Lw b := by simp [Lw]
theorem joinN_one {a : List UInt8} : Lw [a] = a ++ [10] := by simp [Lw]
theorem rformat_yes (hp : Yc w y.1 nl K S.nds) (hf : NFs S.nds) (hs : ∀ N ∈ S.nds, NSm N) (hn : S.nds.length ≤ 12) (hK : 2 ≤ K ∧ K ≤ 1000) (hcap : S.nds.length ≤ y.2) (hB : scOK S = true) : Calls Tryz.prog 7 #[soV S y] w (K5 w (fun _ : Unit => outV S) fun _ _ => True) := by
 obtain ⟨hz, _, hv⟩ := sc_parts hB
 have hall : ndAll S := fun N hN => ⟨hv N hN, hs N hN⟩
 obtain ⟨j1, j2⟩ := sizeJ hz
 have j3 := T5 (Sp S)
 have hzr : (-9223372036854775808 ≤ S.w ∧ S.w ≤ 9223372036854775807) ∧ (-9223372036854775808 ≤ S.h ∧ S.h ≤ 9223372036854775807) := by
  unfold sizeX at hz
  simp only [Bool.or_eq_false_iff, decide_eq_false_iff_not] at hz
  omega
 refine K0.enter Tryz.func7 rfl ?_
 refine ZR ?_
 refine ZC (fun w1 hw h => rsvalid_v (y := y) (hp.below hw) hf hK hcap hB) fun u => ?_
 refine ZI false ?_
 refine ZC (fun w1 hw h => L6 (n := S.w) hzr.1.1 hzr.1.2) fun u0 => ?_
 refine ZC (fun w1 hw h => L6 (n := S.h) hzr.2.1 hzr.2.2) fun u1 => ?_
 refine ZD 9 (fun w1 hw h => rfcolor_m (k := S.bg)) fun u2 => ?_
 refine K0.make (Ks (64) 4 #[(0, K3 [115, 99, 101, 110, 101]), (1, K3 (K6 S.w)), (2, K3 (K6 S.h)), (3, K3 (Na S.bg))]) (Kb 4) (Kp 9 #[K3 [115, 99, 101, 110, 101], K3 (K6 S.w), K3 (K6 S.h), K3 (Na S.bg)]) Zk (fun w1 hw h => K8 Zk) (fun ga => ?_)
 refine ZS 11 ?_
 refine ZD 11 (fun w1 hw h => Z8 (A := some ⟨ga, 0, none⟩) (n := 4) (c := 4) (ls := Sp S) (L3 (L := Sp S) h.2 rfl) Zo Zo) fun u3 => ?_
 refine ZA (S3 .add 9 (.tmp 21) (.const (.string ⟨#[10]⟩)) (K3 (Lc (Sp S))) (K3 [10])) (K3 (Lw (Ud S 0))) (fun w1 hw h => by rw [Ld Zp]; rw [show Lw (Ud S 0) = Lc (Sp S) ++ [10] from joinN_one]) ?_
 refine K0.loop (ι := {k : Nat // k ≤ S.nds.length}) 54 (fun k => ⟨[(1, .p 1 0), (4, .v (K3 (Lw (Ud S k.1)))), (5, .v (.int .i64 k.1))], [(1, (soC S y).map .v)]⟩) (fun k u => True) (fun k => S.nds.length - k.1) (⟨0, Nat.zero_le _⟩) Zk (fun _ => by kernel_rfl) ⟨Zk, Zk, Zk⟩ (fun u h => trivial) ?_
 rintro ⟨k, hk⟩ gg
 have hk : k ≤ S.nds.length := hk
 by_cases hlt : k < S.nds.length
 case neg =>
  obtain rfl : k = S.nds.length := by omega
  have eT : Lw (Ud S S.nds.length) = scT S := by rw [scP_all]; rfl
  rw [eT]
  refine ZR ?_
  refine ZJ (decide ((S.nds.length : Int) < (S.nds.length : Int))) false Zs ?_
  refine K0.leave Zk ?_
  refine ZR ?_
  unfold outV
  by_cases hle : (scT S).length ≤ 65536
  ·rw [if_pos hle]
   refine ZJ (decide (((scT S).length : Int) > 65536)) false (decide_eq_false Zo) ?_
   exact ZW (.tuple #[K3 (scT S), .int .i64 0])
  ·rw [if_neg hle]
   refine ZJ (decide (((scT S).length : Int) > 65536)) true (decide_eq_true Zo) ?_
   exact ZW (.tuple #[K3 [], .int .i64 5])
 obtain ⟨N, hx⟩ : ∃ v, S.nds[k]? = some v := ⟨_, List.getElem?_eq_getElem hlt⟩
 obtain ⟨q, hx2, hrd⟩ := hp.get hx
 obtain ⟨ad, hA, hc⟩ := hp.row.2 k _ hx2
 have hNm := List.mem_of_getElem? hx
 obtain ⟨hNv, hNs⟩ := hall N hNm
 have hkl := scP_len hall (k := k) hk
 have hlb : (Lw (Ud S k)).length ≤ 20000000 := by rw [joinN_len]; omega
 obtain ⟨hl4, hl5⟩ := Ux hNv hNs
 have hnj := nodeJ hNv hNs
 refine ZR ?_
 refine ZJ (decide ((k : Int) < (S.nds.length : Int))) true Zp ?_
 refine ZA (Ke 24 (.slice y.1 S.nds.length y.2) k) (.pointer (some (ad.add (k * 47)))) (fun w1 hw h => Mi hA hlt) ?_
 refine ZA (L7 48 (ad.add (k * 47))) (noV N q) (fun w1 hw h => Xk fun j v hj => Ky hw (hc j v hj)) ?_
 refine ZC (fun w1 hw h => nodeLines_m (hrd.below hw) (hf N hNm) hNv hK) fun r => ?_
 obtain ⟨⟨z, L⟩, hL⟩ := r
 have hL : L.map (·.1) = Rg N := hL
 have hLl := Yu hL
 have hL0 : 0 < L.length := by rw [hLl]; simp [Rg]
 refine K0.pure_ (p := (∃ g : Nat, z.1 = some ⟨g, 0, none⟩)) (fun w1 hw h => by obtain ⟨g, e, _⟩ := h.2.own.cells hL0; exact ⟨g, e⟩) Zk (fun hg => ?_)
 obtain ⟨g1, hg⟩ := hg
 refine K0.slot 4 (K3 (Lw (Ud S k))) (K3 (Lw (Ud S k) ++ Lw ((L.take 0).map fun x => Lc x.1))) Zk (by simp [Lw]) ?_
 refine K0.loop (ι := {m : Nat // m ≤ L.length}) 54 (fun m => ⟨[(1, .p 1 0), (4, .v (K3 (Lw (Ud S k) ++ Lw ((L.take m.1).map fun x => Lc x.1)))), (5, .v (.int .i64 k)), (6, .v (.slice z.1 L.length z.2)), (7, .v (.int .i64 m.1))], [(1, (soC S y).map .v)]⟩) (fun m u => Mz 0 z L u) (fun m => L.length - m.1) (⟨0, Nat.zero_le _⟩) Zk (fun _ => by kernel_rfl) ⟨Zk, Zk, Zk⟩ (fun u h => h.2) ?_
 rintro ⟨m, hm⟩ gg2
 have hm : m ≤ L.length := hm
 by_cases hlt2 : m < L.length
 case neg =>
  obtain rfl : m = L.length := by omega
  have e1 : Lw (Ud S k) ++ Lw ((L.take L.length).map fun x => Lc x.1) = Lw (Ud S (k + 1)) := by rw [List.take_length, scP_snoc hx, joinN_app, ← hL, List.map_map]; rfl
  rw [e1]
  refine ZR ?_
  refine ZJ (decide ((L.length : Int) < (L.length : Int))) false Zs ?_
  refine K0.leave Zk ?_
  refine ZR ?_
  refine K0.slot 5 (.int .i64 (IntKind.i64.wrap ((k : Int) + 1))) (.int .i64 ((k + 1 : Nat) : Int)) Zk (by rw [Kc hlt Zo]) ?_
  refine K0.next (⟨k + 1, by show k + 1 ≤ S.nds.length; omega⟩) Zk (by show S.nds.length - (k + 1) < S.nds.length - k; omega) ⟨Zk, Zk, Zk⟩ (fun u h => trivial)
 obtain ⟨X, hx3⟩ : ∃ v, L[m]? = some v := ⟨_, List.getElem?_eq_getElem hlt2⟩
 have hXm := List.mem_of_getElem? hx3
 have hXs := hl4 X.1 (by rw [← hL]; exact List.mem_map_of_mem hXm)
 have hXl := T5 X.1
 have hml : (Lw ((L.take m).map fun x => Lc x.1)).length ≤ 2000000 := by
  have e2 : (L.take m).map (fun x : LR => Lc x.1) = ((Rg N).map Lc).take m := by rw [← hL, List.map_map, List.map_take]; rfl
  rw [e2]
  have := joinN_take ((Rg N).map Lc) m
  rw [List.length_map] at this
  omega
 refine ZR ?_
 refine ZJ (decide ((m : Int) < (L.length : Int))) true Zp ?_
 refine ZA (Ke 66 (.slice z.1 L.length z.2) m) (.pointer (some ((⟨g1, 0, none⟩ : Addr).add m))) (fun w1 hw h => by rw [hg]; exact Kr (elem := 64) Zk Zk hlt2) ?_
 refine ZA (L7 64 ((⟨g1, 0, none⟩ : Addr).add m)) (Pe X) (fun w1 hw h => K9 Zk (by obtain ⟨g2, e2, h2⟩ := h.own.cells hL0; rw [hg] at e2; cases e2; rw [Addr.add_mid, Nat.zero_add]; exact h2 m _ (by rw [List.getElem?_map, hx3]; rfl))) ?_
 refine ZD 6 (fun w1 hw h => Z8 (c := X.2.2) (h.str X hXm) Zo Zo) fun v => ?_
 refine K0.ask (S3 .add 9 (.tmp 42) (.tmp 47) (K3 (Lw (Ud S k) ++ Lw ((L.take m).map fun x => Lc x.1))) (K3 (Lc X.1))) (K3 ((Lw (Ud S k) ++ Lw ((L.take m).map fun x => Lc x.1)) ++ Lc X.1)) Zk (fun w1 hw h => Ld (by rw [List.length_append]; omega)) ?_
 refine ZS 7 ?_
 refine ZA (S3 .add 9 (.tmp 48) (.const (.string ⟨#[10]⟩)) (K3 ((Lw (Ud S k) ++ Lw ((L.take m).map fun x => Lc x.1)) ++ Lc X.1)) (K3 [10])) (K3 (Lw (Ud S k) ++ Lw ((L.take (m + 1)).map fun x => Lc x.1))) (fun w1 hw h => by rw [Ld (by rw [List.length_append, List.length_append]; show _ + 1 ≤ _; omega), Ut (fun x : LR => Lc x.1) hx3, joinN_snoc]; simp) ?_
 refine K0.slot 7 (.int .i64 (IntKind.i64.wrap ((m : Int) + 1))) (.int .i64 ((m + 1 : Nat) : Int)) Zk (by rw [Kc hlt2 Zo]) ?_
 refine K0.next (⟨m + 1, by show m + 1 ≤ L.length; omega⟩) Zk (by show L.length - (m + 1) < L.length - m; omega) ⟨Zk, Zk, Zk⟩ (fun u h => h.1)
end
end
end Go.Proofs.YtdeepdckmhpldaaGreatDoor
