/-
 Nodes and scenes: the reference's checks.
-/
import Derived.Test.YtdeepdckmhpldaaGreatDoorFJ
namespace Go.Proofs.YtdeepdckmhpldaaGreatDoor
set_option maxRecDepth 100000
set_option maxHeartbeats 8000000
set_option linter.unusedVariables false
set_option linter.unusedSimpArgs false
open Go.RowKit
section
open Go.RowKit
--ATNAMES
section
variable {w : World} {A : Option Addr} {n c g : Nat} {x a b : Int} {B : Bool} {N : Nd} {q : ND} {K : Nat} {S : Sty} {y : Option Addr × Nat} {l : List Int} {Ps : List Pn} {ql : List (Pn × PM)}
theorem rrule_v : Calls Tryz.prog 237 #[.int .i64 x] w (K5 w (fun _ : Unit => .bool (Rj x)) fun _ _ => True) := by
 refine K0.enter Tryz.func237 rfl ?_
 refine ZS 3 ?_
 refine K0.joinB Zk 1000 4 5 [6, 7, 8] 2 true (x == 2) ((x == 1) || (x == 2)) Zk Zk Zk (fun _ => by kernel_rfl) Ny (fun xj1 => ?_)
 refine ZR ?_
 exact ZW (.bool (Rj x))
theorem rmode_v : Calls Tryz.prog 198 #[.int .i64 x] w (K5 w (fun _ : Unit => .bool (Rk x)) fun _ _ => True) := by
 refine K0.enter Tryz.func198 rfl ?_
 refine ZS 3 ?_
 refine K0.joinB Zk 1000 4 5 [6, 7, 8] 2 (decide (x ≤ 13)) false ((decide (x ≥ 1)) && (decide (x ≤ 13))) Zk Zk Zk (fun _ => by kernel_rfl) Lf (fun xj2 => ?_)
 refine ZR ?_
 exact ZW (.bool (Rk x))
def Xa (x a b : Int) : Bool := decide (x ≥ a) && decide (x ≤ b)
theorem Ue : Calls Tryz.prog 280 #[.int .i64 x, .int .i64 a, .int .i64 b] w (K5 w (fun _ : Unit => .bool (Xa x a b)) fun _ _ => True) := by
 refine K0.enter Tryz.func280 rfl ?_
 refine ZS 4 ?_
 refine K0.joinB Zk 1000 5 10 [11, 12, 13, 14] 6 (decide (x ≤ b)) false ((decide (x ≥ a)) && (decide (x ≤ b))) Zk Zk Zk (fun _ => by kernel_rfl) Lf (fun xj3 => ?_)
 refine ZR ?_
 exact ZW (.bool (Xa x a b))
theorem width_v : Calls Tryz.prog 279 #[.int .i64 x] w (K5 w (fun _ : Unit => .bool (Xa x 1 16384)) fun _ _ => True) := by
 refine K0.enter Tryz.func279 rfl ?_
 refine ZR ?_
 refine ZC (fun w1 hw h => Ue (x := x) (a := 1) (b := 16384)) fun u => ?_
 exact ZW (.bool (Xa x 1 16384))
theorem dashG_in {z : Int} : (!Xa z 0 1048576) = Zg z := by
 unfold Xa Zg
 rw [Bool.eq_iff_iff]
 simp only [Bool.not_eq_true', Bool.and_eq_false_iff, decide_eq_false_iff_not, Bool.or_eq_true, decide_eq_true_eq]
 omega
theorem rdashes_v (hd : Nw w A n 1 daC l) (hn : n ≤ 1000000000) : Calls Tryz.prog 281 #[.slice A n c] w (K5 w (fun _ : Unit => .bool (Qi l)) fun _ _ => True) := by
 have hdn := hd.1
 refine K0.enter Tryz.func281 rfl ?_
 refine ZR ?_
 refine K0.slot 3 (.bool ((n : Int) == 0)) (.bool (Qa n (l.take 0))) Zk (by simp [Qa]) ?_
 refine K0.loop (ι := {k : Nat // k ≤ n ∧ (l.take k).any Zg = false}) 40 (fun k => ⟨[(0, .v (.slice A n c)), (3, .v (.bool (Qa n (l.take k.1)))), (4, .v (.int .i64 k.1))], []⟩) (fun k u => True) (fun k => n - k.1) (⟨0, Nat.zero_le _, rfl⟩) Zk (fun _ => by kernel_rfl) ⟨Zk, Zk, Zk⟩ (fun u h => trivial) ?_
 rintro ⟨k, hk, hall⟩ gg
 have hk : k ≤ n := hk
 have hall : (l.take k).any Zg = false := hall
 by_cases hlt : k < n
 case neg =>
  obtain rfl : k = n := by omega
  refine ZR ?_
  refine ZJ (decide ((k : Int) < (k : Int))) false Zs ?_
  refine K0.leave Zk ?_
  refine ZS 2 ?_
  refine K0.joinB Zk 1000 5 29 [30, 31, 32, 33] 34 (decide ((k : Int) ≤ 16)) false ((Qa k (l.take k)) && (decide ((k : Int) ≤ 16))) Zk Zk Zk (fun _ => by kernel_rfl) Lf (fun xj4 => ?_)
  refine K0.joinB Zk 1000 6 34 [35, 36, 37, 38, 39] 2 (Int.tmod (k : Int) 2 == 0) false ((Qa k (l.take k) && decide ((k : Int) ≤ 16)) && (Int.tmod (k : Int) 2 == 0)) Zk Zk Zk (fun _ => by kernel_rfl) Lf (fun xj5 => ?_)
  refine ZR ?_
  exact ZX (.bool ((Qa k (l.take k) && decide ((k : Int) ≤ 16)) && (Int.tmod (k : Int) 2 == 0))) (by unfold Qi; rw [List.take_of_length_le Zo] at hall ⊢; rw [hall, hdn, Bool.and_assoc, Bool.and_comm (decide _), ← Bool.and_assoc]; rfl)
 obtain ⟨z, hx⟩ : ∃ v, l[k]? = some v := ⟨_, List.getElem?_eq_getElem Zo⟩
 obtain ⟨ad, hA, hc⟩ := hd.2 k z hx
 have hcell : ∀ w1 : World, Below w.heap.size w w1 → w1.cell? (ad.add k) = some (.int .i64 z) := fun w1 hw => by have := Ky hw (hc 0 (.int .i64 z) rfl); rw [addadd, Nat.mul_one, Nat.add_zero] at this; exact this
 refine ZR ?_
 refine ZJ (decide ((k : Int) < (n : Int))) true Zp ?_
 refine ZA (Ke 41 (.slice A n c) k) (.pointer (some (ad.add k))) (fun w1 hw h => by rw [hA]; exact Kr (elem := 3) Zk Zk hlt) ?_
 refine ZA (L7 3 (ad.add k)) (.int .i64 z) (fun w1 hw h => K9 Zk (hcell w1 hw)) ?_
 refine ZC (fun w1 hw h => Ue (x := z) (a := 0) (b := 1048576)) fun u => ?_
 cases hb : Zg z
 ·
  refine K0.condr ((!Xa z 0 1048576)) false Zk (by rw [dashG_in, hb]) ?_
  refine ZS 2 ?_
  cases hs : Qa n (l.take k)
  ·
   refine ZR ?_
   refine ZA (Ke 41 (.slice A n c) k) (.pointer (some (ad.add k))) (fun w1 hw h => by rw [hA]; exact Kr (elem := 3) Zk Zk hlt) ?_
   refine ZA (L7 3 (ad.add k)) (.int .i64 z) (fun w1 hw h => K9 Zk (hcell w1 hw)) ?_
   refine K0.slot 4 (.int .i64 (IntKind.i64.wrap ((k : Int) + 1))) (.int .i64 ((k + 1 : Nat) : Int)) Zk (by rw [Kc hlt Zo]) ?_
   refine K0.slot 3 (.bool (decide (z > 0))) (.bool (Qa n (l.take (k + 1)))) Zk (by unfold Qa at hs ⊢; rw [Tj hx, ← Bool.or_assoc, hs, Bool.false_or]) ?_
   refine K0.next (⟨k + 1, by show k + 1 ≤ n; omega, by rw [Tj hx, hall, hb]; rfl⟩) Zk (by show n - (k + 1) < n - k; omega) ⟨Zk, Zk, Zk⟩ (fun u h => trivial)
  ·
   refine ZR ?_
   refine K0.slot 4 (.int .i64 (IntKind.i64.wrap ((k : Int) + 1))) (.int .i64 ((k + 1 : Nat) : Int)) Zk (by rw [Kc hlt Zo]) ?_
   refine K0.slot 3 (.bool true) (.bool (Qa n (l.take (k + 1)))) Zk (by unfold Qa at hs ⊢; rw [Tj hx, ← Bool.or_assoc, hs, Bool.true_or]) ?_
   refine K0.next (⟨k + 1, by show k + 1 ≤ n; omega, by rw [Tj hx, hall, hb]; rfl⟩) Zk (by show n - (k + 1) < n - k; omega) ⟨Zk, Zk, Zk⟩ (fun u h => trivial)
 ·
  refine ZJ ((!Xa z 0 1048576)) true (by rw [dashG_in, hb]) ?_
  refine K0.leave Zk ?_
  refine ZR ?_
  exact ZX (.bool false) (by unfold Qi; rw [any_hit hx hb]; rfl)
def styX (S : Sty) : Bool := (!Xa S.w 1 16384 || !Xa S.j 1 3) || !Xa S.c 3 5
theorem sty_raw : (!styX S && ((Xa S.m 256 65536 && Qi S.d) && Xa S.p 0 1048576)) = P4 S := by
 unfold styX P4 Xa Vx
 rw [Bool.eq_iff_iff]
 simp only [Bool.and_eq_true, Bool.not_eq_true', Bool.or_eq_false_iff, Bool.not_eq_false', Bool.or_eq_true, decide_eq_true_eq, beq_iff_eq]
 constructor
 ·rintro ⟨⟨⟨h1, h2⟩, h3⟩, ⟨h4, h5⟩, h6⟩
  exact ⟨⟨⟨⟨⟨⟨⟨h1, by omega⟩, by omega⟩, h4.1⟩, h4.2⟩, h5⟩, h6.1⟩, h6.2⟩
 ·rintro ⟨⟨⟨⟨⟨⟨⟨h1, h2⟩, h3⟩, h4⟩, h5⟩, h6⟩, h7⟩, h8⟩
  exact ⟨⟨⟨h1, by omega⟩, by omega⟩, ⟨⟨h4, h5⟩, h6⟩, h7, h8⟩
theorem rstyle_v (hB : P4 S = B) (hd : Nw w y.1 S.d.length 1 daC S.d) (hn : S.d.length ≤ 1000000000) : Calls Tryz.prog 242 #[styV S y] w (K5 w (fun _ : Unit => .bool B) fun _ _ => True) := by
 rw [← sty_raw] at hB
 refine K0.enter Tryz.func242 rfl ?_
 refine ZR ?_
 refine ZD 5 (fun w1 hw h => width_v (x := S.w)) fun u => ?_
 refine K0.joinC Zk false 1000 6 3 7 [8, 9, 10, 11, 12] 13 true (Xa S.j 1 3) (!Xa S.j 1 3) ((!Xa S.w 1 16384) || (!Xa S.j 1 3)) Zk (fun w1 hw h => Ue) Zk Zk Zk (fun _ => by kernel_rfl) or_ift (fun xj6 Φxj6 hixj6 => ?_)
 refine K0.joinC Zk false 1000 5 2 13 [14, 15, 16, 17] 18 true (Xa S.c 3 5) (!Xa S.c 3 5) ((!Xa S.w 1 16384 || !Xa S.j 1 3) || (!Xa S.c 3 5)) Zk (fun w1 hw h => Ue) Zk Zk Zk (fun _ => by kernel_rfl) or_ift (fun xj7 Φxj7 hixj7 => ?_)
 cases hx : styX S
 case true =>
  rw [hx] at hB
  refine ZT 18 (.bool ((!Xa S.w 1 16384 || !Xa S.j 1 3) || !Xa S.c 3 5)) (.bool true) (by rw [← hx]; rfl) ?_
  refine ZI true ?_
  exact ZX (.bool false) (by rw [← hB]; rfl)
 rw [hx, Bool.not_false, Bool.true_and] at hB
 refine ZT 18 (.bool ((!Xa S.w 1 16384 || !Xa S.j 1 3) || !Xa S.c 3 5)) (.bool false) (by rw [← hx]; rfl) ?_
 refine ZI false ?_
 refine ZD 4 (fun w1 hw h => Ue (x := S.m) (a := 256) (b := 65536)) fun u2 => ?_
 refine K0.joinC Zk true 1000 5 2 22 [23, 24, 25, 26] 27 false (Qi S.d) (Qi S.d) ((Xa S.m 256 65536) && (Qi S.d)) Zk (fun w1 hw h => rdashes_v (c := y.2) (hd.below hw) hn) Zk Zk Zk (fun _ => by kernel_rfl) Oe (fun xj8 Φxj8 hixj8 => ?_)
 refine K0.joinC Zk true 1000 5 2 27 [28, 29, 30, 31] 2 false (Xa S.p 0 1048576) (Xa S.p 0 1048576) ((Xa S.m 256 65536 && Qi S.d) && (Xa S.p 0 1048576)) Zk (fun w1 hw h => Ue) Zk Zk Zk (fun _ => by kernel_rfl) Oe (fun xj9 Φxj9 hixj9 => ?_)
 refine ZR ?_
 exact ZX (.bool ((Xa S.m 256 65536 && Qi S.d) && Xa S.p 0 1048576)) (by rw [hB])
theorem noGroup_v : Calls Tryz.prog 241 #[noV N q] w (K5 w (fun _ : Unit => .bool (grpB N)) fun _ _ => True) := by
 refine K0.enter Tryz.func241 rfl ?_
 refine ZS 4 ?_
 refine K0.joinB Zk 1000 5 6 [7, 8, 9, 10] 11 (N.bl == 0) false (((N.op.toNat : Int) == 0) && (N.bl == 0)) Zk Zk Zk (fun _ => by kernel_rfl) Lf (fun xj10 => ?_)
 refine K0.joinB Zk 1000 5 11 [12, 13, 14, 15] 16 (!N.iso) false ((((N.op.toNat : Int) == 0) && (N.bl == 0)) && (!N.iso)) Zk Zk Zk (fun _ => by kernel_rfl) Lf (fun xj11 => ?_)
 refine K0.joinB Zk 1000 5 16 [17, 18, 19, 20] 2 (!N.ko) false (((((N.op.toNat : Int) == 0) && (N.bl == 0)) && !N.iso) && (!N.ko)) Zk Zk Zk (fun _ => by kernel_rfl) Lf (fun xj12 => ?_)
 refine ZR ?_
 exact ZW (.bool (grpB N))
theorem noShape_v : Calls Tryz.prog 238 #[noV N q] w (K5 w (fun _ : Unit => .bool (Uj N)) fun _ _ => True) := by
 refine K0.enter Tryz.func238 rfl ?_
 refine ZS 5 ?_
 refine K0.joinB Zk 1000 5 7 [8, 9, 10, 11] 12 (N.frule == 0) false (((N.path.length : Int) == 0) && (N.frule == 0)) Zk Zk Zk (fun _ => by kernel_rfl) Lf (fun xj13 => ?_)
 refine K0.joinB Zk 1000 6 12 [13, 14, 15, 16, 17] 18 ((N.fill.length : Int) == 0) false ((((N.path.length : Int) == 0) && (N.frule == 0)) && ((N.fill.length : Int) == 0)) Zk Zk Zk (fun _ => by kernel_rfl) Lf (fun xj14 => ?_)
 refine K0.joinB Zk 1000 6 18 [19, 20, 21, 22, 23] 2 ((N.stroke.length : Int) == 0) false (((((N.path.length : Int) == 0) && (N.frule == 0)) && ((N.fill.length : Int) == 0)) && ((N.stroke.length : Int) == 0)) Zk Zk Zk (fun _ => by kernel_rfl) Lf (fun xj15 => ?_)
 refine ZR ?_
 exact ZW (.bool (Uj N))
theorem styZ_raw : ((((((S.w == 0) && (S.j == 0)) && (S.c == 0)) && (S.m == 0)) && ((S.d.length : Int) == 0)) && (S.p == 0)) = Om S := by
 unfold Om
 rw [Bool.eq_iff_iff]
 simp only [Bool.and_eq_true, beq_iff_eq, decide_eq_true_eq]
 constructor
 ·rintro ⟨⟨h1, h2⟩, h3⟩
  exact ⟨⟨h1, h3⟩, by omega⟩
 ·rintro ⟨⟨h1, h3⟩, h2⟩
  exact ⟨⟨h1, by omega⟩, h3⟩
theorem Ys : Calls Tryz.prog 239 #[noV N q] w (K5 w (fun _ : Unit => .bool (Om N.sty)) fun _ _ => True) := by
 refine K0.enter Tryz.func239 rfl ?_
 refine ZS 4 ?_
 refine K0.joinB Zk 1000 5 9 [10, 11, 12, 13] 14 (N.sty.j == 0) false ((N.sty.w == 0) && (N.sty.j == 0)) Zk Zk Zk (fun _ => by kernel_rfl) Lf (fun xj16 => ?_)
 refine K0.joinB Zk 1000 5 14 [15, 16, 17, 18] 19 (N.sty.c == 0) false (((N.sty.w == 0) && (N.sty.j == 0)) && (N.sty.c == 0)) Zk Zk Zk (fun _ => by kernel_rfl) Lf (fun xj17 => ?_)
 refine K0.joinB Zk 1000 5 19 [20, 21, 22, 23] 24 (N.sty.m == 0) false ((((N.sty.w == 0) && (N.sty.j == 0)) && (N.sty.c == 0)) && (N.sty.m == 0)) Zk Zk Zk (fun _ => by kernel_rfl) Lf (fun xj18 => ?_)
 refine K0.joinB Zk 1000 6 24 [25, 26, 27, 28, 29] 30 ((N.sty.d.length : Int) == 0) false (((((N.sty.w == 0) && (N.sty.j == 0)) && (N.sty.c == 0)) && (N.sty.m == 0)) && ((N.sty.d.length : Int) == 0)) Zk Zk Zk (fun _ => by kernel_rfl) Lf (fun xj19 => ?_)
 refine K0.joinB Zk 1000 5 30 [31, 32, 33, 34] 2 (N.sty.p == 0) false ((((((N.sty.w == 0) && (N.sty.j == 0)) && (N.sty.c == 0)) && (N.sty.m == 0)) && ((N.sty.d.length : Int) == 0)) && (N.sty.p == 0)) Zk Zk Zk (fun _ => by kernel_rfl) Lf (fun xj20 => ?_)
 refine ZR ?_
 exact ZX (.bool ((((((N.sty.w == 0) && (N.sty.j == 0)) && (N.sty.c == 0)) && (N.sty.m == 0)) && ((N.sty.d.length : Int) == 0)) && (N.sty.p == 0))) (by rw [← styZ_raw])
theorem pic_raw : ((((N.im.w == 0) && (N.im.h == 0)) && ((N.im.px.length : Int) == 0)) && (N.samp == 0)) = Vj N := by
 unfold Vj
 rw [Bool.eq_iff_iff]
 simp only [Bool.and_eq_true, beq_iff_eq, decide_eq_true_eq]
 constructor
 ·rintro ⟨⟨⟨h1, h2⟩, h3⟩, h4⟩
  exact ⟨⟨h1, h2, List.length_eq_zero_iff.1 Zo⟩, h4⟩
 ·rintro ⟨⟨h1, h2, h3⟩, h4⟩
  exact ⟨⟨⟨h1, h2⟩, by rw [h3]; rfl⟩, h4⟩
theorem noImage_v : Calls Tryz.prog 240 #[noV N q] w (K5 w (fun _ : Unit => .bool (Vj N)) fun _ _ => True) := by
 refine K0.enter Tryz.func240 rfl ?_
 refine ZS 5 ?_
 refine K0.joinB Zk 1000 6 7 [8, 9, 10, 11, 12] 13 (N.im.h == 0) false ((N.im.w == 0) && (N.im.h == 0)) Zk Zk Zk (fun _ => by kernel_rfl) Lf (fun xj21 => ?_)
 refine K0.joinB Zk 1000 7 13 [14, 15, 16, 17, 18, 19] 20 ((N.im.px.length : Int) == 0) false (((N.im.w == 0) && (N.im.h == 0)) && ((N.im.px.length : Int) == 0)) Zk Zk Zk (fun _ => by kernel_rfl) Lf (fun xj22 => ?_)
 refine K0.joinB Zk 1000 5 20 [21, 22, 23, 24] 2 (N.samp == 0) false ((((N.im.w == 0) && (N.im.h == 0)) && ((N.im.px.length : Int) == 0)) && (N.samp == 0)) Zk Zk Zk (fun _ => by kernel_rfl) Lf (fun xj23 => ?_)
 refine ZR ?_
 exact ZX (.bool ((((N.im.w == 0) && (N.im.h == 0)) && ((N.im.px.length : Int) == 0)) && (N.samp == 0))) (by rw [← pic_raw])
theorem clip_raw : ((((N.clip.length : Int) == 0) && (N.crule != 0)) || (decide ((N.clip.length : Int) > 0) && !Rj N.crule)) = !Py N := by
 unfold Py
 by_cases h : N.clip.length = 0
 ·rw [if_pos h, show ((N.clip.length : Int) == 0) = true from beq_iff_eq.2 Zo, show decide ((N.clip.length : Int) > 0) = false from decide_eq_false Zo]
  simp [bne]
 ·rw [if_neg h, show ((N.clip.length : Int) == 0) = false from beq_eq_false_iff_ne.2 Zo, show decide ((N.clip.length : Int) > 0) = true from decide_eq_true Zo]
  simp
def owL : List Nat := [12, 13, 14, 15, 16, 17, 18, 19, 20, 21, 22]
theorem ownFields_v : Calls Tryz.prog 196 #[noV N q] w (K5 w (fun _ : Unit => .bool (Py N && U3 N)) fun _ _ => True) := by
 refine K0.enter Tryz.func196 rfl ?_
 refine ZS 5 ?_
 refine K0.joinB Zk 1000 5 7 [8, 9, 10, 11] 12 (N.crule != 0) false (((N.clip.length : Int) == 0) && (N.crule != 0)) Zk Zk Zk (fun _ => by kernel_rfl) Lf (fun xj24 => ?_)
 refine K0.meet2 (fun (i : Nat → AV) c => Pj owL i (Ls 23 (.bool (!Py N)) (Lz Tryz.prog 1000 11 (Ls 12 (.bool true) c)))) (fun k => ?_) (fun xj Φ9 hi9 => ?_)
 ·refine K0.fork 12 (((N.clip.length : Int) == 0) && (N.crule != 0)) Zk (fun hc => ?_) (fun hc => ?_)
  ·refine K0.run Zk (stop := 1000) 11 _ ?_
   refine K0.slot 23 (.bool true) (.bool (!Py N)) Zk (by rw [← clip_raw, hc, Bool.true_or]) ?_
   exact K0.blur owL fun x => K0.eq (k x _ fun w h => h) Zk
  ·refine K0.run Zk (stop := 1000) 5 _ ?_
   refine K0.joinC Zk true 1000 5 2 17 [18, 19, 20, 21] 22 false (Rj N.crule) (!Rj N.crule) ((decide ((N.clip.length : Int) > 0)) && (!Rj N.crule)) Zk (fun w1 hw h => rrule_v) Zk Zk Zk (fun _ => by kernel_rfl) Oe (fun xj25 Φxj25 hixj25 => ?_)
   refine K0.run Zk (stop := 1000) 1 _ ?_
   refine K0.slot 23 (.bool (decide ((N.clip.length : Int) > 0) && !Rj N.crule)) (.bool (!Py N)) Zk (by rw [← clip_raw, hc, Bool.false_or]) ?_
   exact K0.blur owL fun x => K0.eq (k x _ (by assumption)) Zk
 refine ZR ?_
 cases hcl : Py N
 ·
  refine ZJ ((!false)) true (rfl) ?_
  exact ZW (.bool false)
 refine ZJ ((!true)) false (rfl) ?_
 rw [Bool.true_and]
 unfold U3
 by_cases k1 : N.kind = 1
 ·
  refine ZJ ((N.kind == 1)) true (beq_iff_eq.2 k1) ?_
  refine ZD 3 (fun w1 hw h => noShape_v (N := N) (q := q)) fun u => ?_
  refine K0.joinC Zk true 1000 4 2 30 [31, 32, 33] 34 false (Om N.sty) (Om N.sty) ((Uj N) && (Om N.sty)) Zk (fun w1 hw h => Ys (N := N) (q := q)) Zk Zk Zk (fun _ => by kernel_rfl) Oe (fun xj26 Φxj26 hixj26 => ?_)
  refine K0.joinC Zk true 1000 4 2 34 [35, 36, 37] 2 false (Vj N) (Vj N) ((Uj N && Om N.sty) && (Vj N)) Zk (fun w1 hw h => noImage_v (N := N) (q := q)) Zk Zk Zk (fun _ => by kernel_rfl) Oe (fun xj27 Φxj27 hixj27 => ?_)
  refine ZR ?_
  exact ZX (.bool ((Uj N && Om N.sty) && Vj N)) (by rw [if_pos k1])
 refine ZJ ((N.kind == 1)) false (beq_eq_false_iff_ne.2 k1) ?_
 by_cases k2 : N.kind = 2
 ·
  refine ZJ ((N.kind == 2)) true (beq_iff_eq.2 k2) ?_
  refine ZD 3 (fun w1 hw h => noGroup_v (N := N) (q := q)) fun u => ?_
  refine K0.joinC Zk true 1000 4 2 42 [43, 44, 45] 2 false (Vj N) (Vj N) ((grpB N) && (Vj N)) Zk (fun w1 hw h => noImage_v (N := N) (q := q)) Zk Zk Zk (fun _ => by kernel_rfl) Oe (fun xj28 Φxj28 hixj28 => ?_)
  refine ZR ?_
  exact ZX (.bool (grpB N && Vj N)) (by rw [if_neg k1, if_pos k2])
 refine ZJ ((N.kind == 2)) false (beq_eq_false_iff_ne.2 k2) ?_
 refine ZD 3 (fun w1 hw h => noGroup_v (N := N) (q := q)) fun u => ?_
 refine K0.joinC Zk true 1000 4 2 48 [49, 50, 51] 52 false (Uj N) (Uj N) ((grpB N) && (Uj N)) Zk (fun w1 hw h => noShape_v (N := N) (q := q)) Zk Zk Zk (fun _ => by kernel_rfl) Oe (fun xj29 Φxj29 hixj29 => ?_)
 refine K0.joinC Zk true 1000 4 2 52 [53, 54, 55] 2 false (Om N.sty) (Om N.sty) ((grpB N && Uj N) && (Om N.sty)) Zk (fun w1 hw h => Ys (N := N) (q := q)) Zk Zk Zk (fun _ => by kernel_rfl) Oe (fun xj30 Φxj30 hixj30 => ?_)
 refine ZR ?_
 exact ZX (.bool ((grpB N && Uj N) && Om N.sty)) (by rw [if_neg k1, if_neg k2, Bool.and_assoc])
end
end
section
open Go.RowKit
--ATNAMES
section
variable {w : World} {A : Option Addr} {n c g : Nat} {x a b : Int} {B : Bool} {N : Nd} {q : ND} {K : Nat} {S : Sc} {y : Option Addr × Nat} {Ps : List Pn} {ql : List (Pn × PM)} {nl : List (Nd × ND)} {Ns : List Nd} {k : Nat}
theorem rpaints_ok (hB : Ps.all Kt = B) (hp : PsAt w A ql K Ps) (hn : Ps.length = n) (hn2 : n ≤ 1000000000) (hl : ∀ P ∈ Ps, Few P) (hK : 2 ≤ K ∧ K ≤ 1000) : Calls Tryz.prog 243 #[.slice A n c] w (K5 w (fun _ : Unit => .bool B) fun _ _ => True) := by
 refine K0.enter Tryz.func243 rfl ?_
 refine ZR ?_
 refine K0.loop (ι := {q : Nat // q ≤ n ∧ (Ps.take q).all Kt = true}) 16 (fun q => ⟨[(0, .v (.slice A n c)), (3, .v (.int .i64 q.1))], []⟩) (fun q u => True) (fun q => n - q.1) (⟨0, Nat.zero_le _, rfl⟩) Zk (fun _ => by kernel_rfl) ⟨Zk, Zk, Zk⟩ (fun u h => trivial) ?_
 rintro ⟨k, hk, hall⟩ gg
 have hk : k ≤ n := hk
 have hall : (Ps.take k).all Kt = true := hall
 by_cases hlt : k < n
 case neg =>
  obtain rfl : k = n := by omega
  rw [List.take_of_length_le Zo] at hall
  refine ZR ?_
  refine ZJ (decide ((k : Int) < (k : Int))) false Zs ?_
  refine K0.leave Zk ?_
  refine ZR ?_
  exact ZX (.bool true) (by rw [← hB, hall])
 obtain ⟨P, hx⟩ : ∃ x, Ps[k]? = some x := ⟨_, List.getElem?_eq_getElem Zo⟩
 obtain ⟨p, hx2, hrd⟩ := hp.get hx
 obtain ⟨ad, hA, hc⟩ := hp.row.2 k _ hx2
 have hf := hl P (List.mem_of_getElem? hx)
 refine ZR ?_
 refine ZJ (decide ((k : Int) < (n : Int))) true Zp ?_
 refine ZA (Ke 40 (.slice A n c) k) (.pointer (some (ad.add (k * 40)))) (fun w1 hw h => Sb hA hlt) ?_
 refine ZA (L7 56 (ad.add (k * 40))) (.agg (pC2 (P, p)).toArray) (fun w1 hw h => Tp fun j v hj => Ky hw (hc j v hj)) ?_
 cases hb : Kt P
 ·
  refine ZC (fun w1 hw h => rpvalid_v (P := P) (q := p) hb (hrd.below hw) hK (by have := hf.1; omega) (by have := hf.2; omega)) fun u => ?_
  refine ZI true ?_
  refine K0.leave Zk ?_
  refine ZR ?_
  exact ZX (.bool false) (by rw [← hB, Vv hx hb])
 ·
  refine ZC (fun w1 hw h => rpvalid_v (P := P) (q := p) hb (hrd.below hw) hK (by have := hf.1; omega) (by have := hf.2; omega)) fun u => ?_
  refine ZI false ?_
  refine K0.slot 3 (.int .i64 (IntKind.i64.wrap ((k : Int) + 1))) (.int .i64 ((k + 1 : Nat) : Int)) Zk (by rw [Kc hlt Zo]) ?_
  refine K0.next (⟨k + 1, by show k + 1 ≤ n; omega, by rw [Si hx hall, hb]⟩) Zk (by show n - (k + 1) < n - k; omega) ⟨Zk, Zk, Zk⟩ (fun u h => trivial)
theorem checkShape_v (hp : NRd N q K w) (hf : NFew N) (hK : 2 ≤ K ∧ K ≤ 1000) (hB : U7 N = B) : Calls Tryz.prog 197 #[noV N q] w (K5 w (fun z : {z : Int // decide (z = 0) = B} => .int .i64 z.1) fun _ _ => True) := by
 unfold U7 at hB
 refine K0.enter Tryz.func197 rfl ?_
 refine ZR ?_
 cases h1 : Pv N.path
 ·rw [h1, Bool.false_and] at hB
  refine ZC (fun w1 hw h => Uk (c := q.pac) (hp.pa.below hw) hf.pa h1) fun u => ?_
  refine ZI true ?_
  refine ZV (.int .i64 10) (fun w1 hw h => ⟨⟨10, by rw [← hB]; rfl⟩, rfl, hw, fun _ _ _ => trivial⟩)
 rw [h1, Bool.true_and] at hB
 refine ZC (fun w1 hw h => Uk (c := q.pac) (hp.pa.below hw) hf.pa h1) fun u => ?_
 refine ZI false ?_
 refine ZC (fun w1 hw h => rrule_v (x := N.frule)) fun u2 => ?_
 cases h2 : Rj N.frule
 ·rw [h2, Bool.false_and] at hB
  refine ZJ ((!false)) true (rfl) ?_
  refine ZV (.int .i64 2) (fun w1 hw h => ⟨⟨2, by rw [← hB]; rfl⟩, rfl, hw, fun _ _ _ => trivial⟩)
 rw [h2, Bool.true_and] at hB
 refine K0.condr ((!true)) false Zk (rfl) ?_
 refine ZS 5 ?_
 refine K0.joinB Zk 1000 6 18 [19, 20, 21, 22, 23] 13 true (decide ((N.stroke.length : Int) > 1)) ((decide ((N.fill.length : Int) > 1)) || (decide ((N.stroke.length : Int) > 1))) Zk Zk Zk (fun _ => by kernel_rfl) Ny (fun xj1 => ?_)
 refine ZR ?_
 cases h3 : manyB N
 case true =>
  rw [h3] at hB
  refine ZJ (manyB N) true (h3) ?_
  refine ZV (.int .i64 5) (fun w1 hw h => ⟨⟨5, by rw [← hB]; rfl⟩, rfl, hw, fun _ _ _ => trivial⟩)
 rw [h3, Bool.not_false, Bool.true_and] at hB
 refine K0.condr (manyB N) false Zk (h3) ?_
 refine ZS 5 ?_
 refine K0.joinC Zk true 1000 6 3 29 [30, 31, 32, 33, 34] 24 false (P4 N.sty) (!P4 N.sty) ((decide ((N.stroke.length : Int) > 0)) && (!P4 N.sty)) Zk (fun w1 hw h => rstyle_v (y := (q.daA, q.dac)) rfl (hp.da.below hw) (by have := hf.da; omega)) Zk Zk Zk (fun _ => by kernel_rfl) Oe (fun xj2 Φxj2 hixj2 => ?_)
 refine ZR ?_
 cases h4 : penB N
 case false =>
  rw [h4, Bool.false_and] at hB
  unfold penB at h4
  by_cases h0 : N.stroke.length = 0
  ·rw [if_pos h0] at h4
   refine K0.condr ((decide ((N.stroke.length : Int) > 0) && !P4 N.sty)) false Zk (by rw [decide_eq_false Zo]; rfl) ?_
   refine ZS 5 ?_
   refine K0.joinC Zk true 1000 5 3 40 [41, 42, 43, 44] 35 false (Om N.sty) (!Om N.sty) (((N.stroke.length : Int) == 0) && (!Om N.sty)) Zk (fun w1 hw h => Ys (N := N) (q := q)) Zk Zk Zk (fun _ => by kernel_rfl) Oe (fun xj3 Φxj3 hixj3 => ?_)
   refine ZR ?_
   refine ZJ ((((N.stroke.length : Int) == 0) && !Om N.sty)) true (by rw [h4, beq_iff_eq.2 Zo]; rfl) ?_
   refine ZV (.int .i64 17) (fun w1 hw h => ⟨⟨17, by rw [← hB]; rfl⟩, rfl, hw, fun _ _ _ => trivial⟩)
  ·rw [if_neg h0] at h4
   refine ZJ ((decide ((N.stroke.length : Int) > 0) && !P4 N.sty)) true (by rw [h4, decide_eq_true Zo]; rfl) ?_
   refine ZV (.int .i64 13) (fun w1 hw h => ⟨⟨13, by rw [← hB]; rfl⟩, rfl, hw, fun _ _ _ => trivial⟩)
 rw [h4, Bool.true_and] at hB
 unfold penB at h4
 have k4 : (decide ((N.stroke.length : Int) > 0) && !P4 N.sty) = false := by
  by_cases h0 : N.stroke.length = 0
  ·rw [decide_eq_false Zo]; rfl
  ·rw [if_neg h0] at h4; rw [h4, Bool.not_true, Bool.and_false]
 have k5 : (((N.stroke.length : Int) == 0) && !Om N.sty) = false := by
  by_cases h0 : N.stroke.length = 0
  ·rw [if_pos h0] at h4; rw [h4, Bool.not_true, Bool.and_false]
  ·rw [beq_eq_false_iff_ne.2 Zo]; rfl
 refine K0.condr ((decide ((N.stroke.length : Int) > 0) && !P4 N.sty)) false Zk (k4) ?_
 refine ZS 5 ?_
 refine K0.joinC Zk true 1000 5 3 40 [41, 42, 43, 44] 35 false (Om N.sty) (!Om N.sty) (((N.stroke.length : Int) == 0) && (!Om N.sty)) Zk (fun w1 hw h => Ys (N := N) (q := q)) Zk Zk Zk (fun _ => by kernel_rfl) Oe (fun xj4 Φxj4 hixj4 => ?_)
 refine ZR ?_
 refine K0.condr ((((N.stroke.length : Int) == 0) && !Om N.sty)) false Zk (k5) ?_
 refine ZS 5 ?_
 refine ZD 5 (fun w1 hw h => rpaints_ok (c := q.fic) rfl (hp.fi.below hw) rfl (by have := hf.fn; omega) hf.fi hK) fun u5 => ?_
 refine K0.joinC Zk false 1000 6 3 50 [51, 52, 53, 54, 55] 45 true (N.stroke.all Kt) (!N.stroke.all Kt) ((!N.fill.all Kt) || (!N.stroke.all Kt)) Zk (fun w1 hw h => rpaints_ok (c := q.stc) rfl (hp.st.below hw) rfl (by have := hf.sn; omega) hf.st hK) Zk Zk Zk (fun _ => by kernel_rfl) or_ift (fun xj5 Φxj5 hixj5 => ?_)
 refine ZR ?_
 cases B
 ·
  refine ZJ ((!N.fill.all Kt || !N.stroke.all Kt)) true (by rw [← Bool.not_and, hB]; rfl) ?_
  refine ZV (.int .i64 16) (fun w1 hw h => ⟨⟨16, rfl⟩, rfl, hw, fun _ _ _ => trivial⟩)
 ·
  refine ZJ ((!N.fill.all Kt || !N.stroke.all Kt)) false (by rw [← Bool.not_and, hB]; rfl) ?_
  refine ZV (.int .i64 0) (fun w1 hw h => ⟨⟨0, rfl⟩, rfl, hw, fun _ _ _ => trivial⟩)
theorem rcheck_v (hp : NRd N q K w) (hf : NFew N) (hK : 2 ≤ K ∧ K ≤ 1000) (hB : Lj N = B) : Calls Tryz.prog 138 #[noV N q] w (K5 w (fun z : {z : Int // decide (z = 0) = B} => .int .i64 z.1) fun _ _ => True) := by
 unfold Lj commB at hB
 refine K0.enter Tryz.func138 rfl ?_
 refine ZS 4 ?_
 refine K0.joinB Zk 1000 5 7 [8, 9, 10, 11] 3 true (decide (N.kind > 3)) ((decide (N.kind < 1)) || (decide (N.kind > 3))) Zk Zk Zk (fun _ => by kernel_rfl) Ny (fun xj6 => ?_)
 refine ZR ?_
 cases h1 : kindX N
 case true =>
  rw [h1] at hB
  refine ZJ (kindX N) true (h1) ?_
  refine ZV (.int .i64 2) (fun w1 hw h => ⟨⟨2, by rw [← hB]; rfl⟩, rfl, hw, fun _ _ _ => trivial⟩)
 rw [h1, Bool.not_false, Bool.true_and] at hB
 refine K0.condr (kindX N) false Zk (h1) ?_
 refine ZS 4 ?_
 refine K0.joinB Zk 1000 5 16 [17, 18, 19, 20] 21 true (decide (N.id > 1073741824)) ((decide (N.id < 1)) || (decide (N.id > 1073741824))) Zk Zk Zk (fun _ => by kernel_rfl) Ny (fun xj7 => ?_)
 refine K0.joinB Zk 1000 5 21 [22, 23, 24, 25] 26 true (decide (N.dep < 0)) ((decide (N.id < 1) || decide (N.id > 1073741824)) || (decide (N.dep < 0))) Zk Zk Zk (fun _ => by kernel_rfl) Ny (fun xj8 => ?_)
 refine K0.joinB Zk 1000 5 26 [27, 28, 29, 30] 12 true (decide (N.dep ≥ 8)) (((decide (N.id < 1) || decide (N.id > 1073741824)) || decide (N.dep < 0)) || (decide (N.dep ≥ 8))) Zk Zk Zk (fun _ => by kernel_rfl) Ny (fun xj9 => ?_)
 refine ZR ?_
 cases h2 : rngX N
 case true =>
  rw [h2] at hB
  refine ZJ (rngX N) true (h2) ?_
  refine ZV (.int .i64 6) (fun w1 hw h => ⟨⟨6, by rw [← hB]; rfl⟩, rfl, hw, fun _ _ _ => trivial⟩)
 rw [h2, Bool.not_false, Bool.true_and] at hB
 refine ZJ (rngX N) false (h2) ?_
 refine ZC (fun w1 hw h => rvalidA_v rfl (hp.tr.below hw) Zo) fun u1 => ?_
 cases h3 : N.T.ok
 ·rw [h3] at hB
  refine ZJ ((!false)) true (rfl) ?_
  refine ZV (.int .i64 5) (fun w1 hw h => ⟨⟨5, by rw [← hB]; rfl⟩, rfl, hw, fun _ _ _ => trivial⟩)
 rw [h3, Bool.true_and] at hB
 refine ZJ ((!true)) false (rfl) ?_
 refine ZC (fun w1 hw h => rdetA_m (hp.tr.below hw) Zo) fun d => ?_
 refine ZC (fun w1 hw h => Xn 0 w1 Zd Zd) fun z => ?_
 refine ZC (fun w1 hw h => rqcmp_m h.1.2.q h.2.q Zo) fun v => ?_
 cases h4 : decide (N.T.det ≠ 0)
 ·rw [h4] at hB
  refine ZJ ((Rc N.T.det ((0 : Int) : Rat) == 0)) true (by rw [cmp_eq0]; have := of_decide_eq_false h4; exact decide_eq_true (Classical.not_not.1 this)) ?_
  refine ZV (.int .i64 9) (fun w1 hw h => ⟨⟨9, by rw [← hB]; rfl⟩, rfl, hw, fun _ _ _ => trivial⟩)
 rw [h4, Bool.true_and] at hB
 refine ZJ ((Rc N.T.det ((0 : Int) : Rat) == 0)) false (by rw [cmp_eq0]; exact decide_eq_false (of_decide_eq_true h4)) ?_
 cases h5 : Pv N.clip
 ·rw [h5] at hB
  refine ZC (fun w1 hw h => Uk (c := q.clc) (hp.cl.below hw) hf.cl h5) fun u4 => ?_
  refine ZI true ?_
  refine ZV (.int .i64 10) (fun w1 hw h => ⟨⟨10, by rw [← hB]; rfl⟩, rfl, hw, fun _ _ _ => trivial⟩)
 rw [h5, Bool.true_and] at hB
 refine ZC (fun w1 hw h => Uk (c := q.clc) (hp.cl.below hw) hf.cl h5) fun u4 => ?_
 refine ZI false ?_
 refine ZC (fun w1 hw h => ownFields_v (N := N) (q := q)) fun u5 => ?_
 cases h6 : (Py N && U3 N)
 ·rw [h6] at hB
  refine ZJ ((!false)) true (rfl) ?_
  refine ZV (.int .i64 17) (fun w1 hw h => ⟨⟨17, by rw [← hB]; rfl⟩, rfl, hw, fun _ _ _ => trivial⟩)
 rw [h6, Bool.true_and] at hB
 refine ZJ ((!true)) false (rfl) ?_
 unfold ownB at hB
 by_cases k2 : N.kind = 2
 ·rw [if_neg Zo, if_pos k2] at hB
  refine ZJ ((N.kind == 2)) true (beq_iff_eq.2 k2) ?_
  refine ZC (fun w1 hw h => checkShape_v (hp.below hw) hf hK hB) fun z => ?_
  refine ZV (.int .i64 z.1) (fun w1 hw h => ⟨z, rfl, hw, fun _ _ _ => trivial⟩)
 refine ZJ ((N.kind == 2)) false (beq_eq_false_iff_ne.2 k2) ?_
 by_cases k1 : N.kind = 1
 ·rw [if_pos k1] at hB
  refine ZJ ((N.kind == 1)) true (beq_iff_eq.2 k1) ?_
  refine ZC (fun w1 hw h => rmode_v (x := N.bl)) fun u6 => ?_
  cases hm : Rk N.bl
  ·rw [hm] at hB
   refine ZJ ((!false)) true (rfl) ?_
   refine ZV (.int .i64 2) (fun w1 hw h => ⟨⟨2, by rw [← hB]; rfl⟩, rfl, hw, fun _ _ _ => trivial⟩)
  ·rw [hm] at hB
   refine ZJ ((!true)) false (rfl) ?_
   refine ZV (.int .i64 0) (fun w1 hw h => ⟨⟨0, by rw [← hB]; rfl⟩, rfl, hw, fun _ _ _ => trivial⟩)
 rw [if_neg k1, if_neg k2] at hB
 refine ZJ ((N.kind == 1)) false (beq_eq_false_iff_ne.2 k1) ?_
 refine ZC (fun w1 hw h => rimvalid_v (m := N.im) (y := (q.pxA, q.pxc)) rfl (hp.px.below hw) (by have := hf.px; omega)) fun u6 => ?_
 cases hi : Uy N.im
 ·rw [hi] at hB
  refine ZJ ((!false)) true (rfl) ?_
  refine ZV (.int .i64 16) (fun w1 hw h => ⟨⟨16, by rw [← hB]; rfl⟩, rfl, hw, fun _ _ _ => trivial⟩)
 rw [hi, Bool.true_and] at hB
 refine K0.condr ((!true)) false Zk (rfl) ?_
 refine ZS 4 ?_
 refine K0.joinB Zk 1000 4 71 [72, 73, 74] 75 (N.samp != 2) false ((N.samp != 1) && (N.samp != 2)) Zk Zk Zk (fun _ => by kernel_rfl) Lf (fun xj10 => ?_)
 refine ZR ?_
 cases hs : ((N.samp != 1) && (N.samp != 2))
 ·rw [hs] at hB
  refine ZJ (false) false (rfl) ?_
  refine ZV (.int .i64 0) (fun w1 hw h => ⟨⟨0, by rw [← hB]; rfl⟩, rfl, hw, fun _ _ _ => trivial⟩)
 ·rw [hs] at hB
  refine ZJ (true) true (rfl) ?_
  refine ZV (.int .i64 2) (fun w1 hw h => ⟨⟨2, by rw [← hB]; rfl⟩, rfl, hw, fun _ _ _ => trivial⟩)
end
end
section
open Go.RowKit
--ATNAMES
section
variable {w : World} {A : Option Addr} {n c i k : Nat} {z : Int} {B : Bool} {N : Nd} {q : ND} {K : Nat} {S : Sc} {y : Option Addr × Nat} {nl : List (Nd × ND)} {Ns : List Nd}
theorem run_slN {P : Program} {t e : TypeId} {n c i s : Nat} (ht : P.underlying t = some (.slice e)) (he : P.elem t = e) (hs : O9 P e = some s) (hi : i ≤ c) : (slH t (.slice A n c) i).run P w = .ok (.value (.slice (if c = 0 then A else A.map (·.add 0)) i c)) w := by
 have h1 := run_slice_h (P := P) w t A n c (by rw [he]; exact ht) .i64 i Zo Zo
 have h2 := run_sliceAt_slice (P := P) w t (.slice A n c) none (some (.int .i64 i)) none (by rw [he]; exact ht)
 simp only [slH, Sem.run_bind, h2, h1, he, Ln hs, Result.andThen_ok, Sem.run_pure]
 simp [sliced]
theorem Nw.upto {α : Type} {s : Nat} {cl : α → List Value} {l : List α} (h : Nw w A n s cl l) (hi : i ≤ n) : Nw w (if c = 0 then A else A.map (·.add 0)) i s cl (l.take i) := by
 refine ⟨by rw [List.length_take, h.1]; omega, fun k s hk => ?_⟩
 rw [List.getElem?_take] at hk
 split at hk
 ·obtain ⟨ad, h1, h2⟩ := h.2 k s hk
  subst h1
  split
  ·exact ⟨ad, rfl, h2⟩
  ·exact ⟨ad.add 0, rfl, by simpa [Addr.add] using h2⟩
 ·cases hk
def NdR (w : World) (A : Option Addr) (n : Nat) (nl : List (Nd × ND)) : Prop := Nw w A n 47 (fun x => noC x.1 x.2) nl
theorem any_false {α : Type} {p : α → Bool} {l : List α} {k : Nat} (h : l.length ≤ k) (h2 : (l.take k).any p = false) : l.any p = false := by rw [List.take_of_length_le h] at h2; exact h2
theorem rfind_v (hp : NdR w A n nl) (hn : n ≤ 1000000000) (hB : nl.any (fun x => x.1.id == z) = B) : Calls Tryz.prog 139 #[.slice A n c, .int .i64 z] w (K5 w (fun r : {r : Int // decide (r ≥ 0) = B} => .int .i64 r.1) fun _ _ => True) := by
 have hln := hp.1
 refine K0.enter Tryz.func139 rfl ?_
 refine ZR ?_
 refine K0.loop (ι := {k : Nat // k ≤ n ∧ (nl.take k).any (fun x => x.1.id == z) = false}) 20 (fun k => ⟨[(0, .v (.slice A n c)), (1, .v (.int .i64 z)), (5, .v (.int .i64 k.1))], []⟩) (fun k u => True) (fun k => n - k.1) (⟨0, Nat.zero_le _, rfl⟩) Zk (fun _ => by kernel_rfl) ⟨Zk, Zk, Zk⟩ (fun u h => trivial) ?_
 rintro ⟨k, hk, hall⟩ gg
 have hk : k ≤ n := hk
 have hall : (nl.take k).any (fun x => x.1.id == z) = false := hall
 by_cases hlt : k < n
 case neg =>
  obtain rfl : k = n := by omega
  refine ZR ?_
  refine ZJ (decide ((k : Int) < (k : Int))) false Zs ?_
  refine K0.leave Zk ?_
  refine ZR ?_
  refine ZV (.int .i64 (-1)) (fun w1 hw h => ⟨⟨-1, by rw [← hB, any_false Zo hall]; rfl⟩, rfl, hw, fun _ _ _ => trivial⟩)
 obtain ⟨x, hx⟩ : ∃ x, nl[k]? = some x := ⟨_, List.getElem?_eq_getElem Zo⟩
 obtain ⟨ad, hA, hc⟩ := hp.2 k x hx
 refine ZR ?_
 refine ZJ (decide ((k : Int) < (n : Int))) true Zp ?_
 refine K0.ask (Ke 24 (.slice A n c) k) (.pointer (some (ad.add (k * 47)))) Zk (fun w1 hw h => Mi hA hlt) ?_
 refine ZS 3 ?_
 refine ZA (Pr 48 (ad.add (k * 47)) 0) (.pointer (some ((ad.add (k * 47)).add 0))) (fun w1 hw h => L5 (d := 0) Zk) ?_
 refine ZA (L7 3 ((ad.add (k * 47)).add 0)) (.int .i64 x.1.id) (fun w1 hw h => K9 Zk (Ky hw (hc 0 _ rfl))) ?_
 cases hb : (x.1.id == z)
 ·
  refine ZJ ((x.1.id == z)) false (hb) ?_
  refine K0.slot 5 (.int .i64 (IntKind.i64.wrap ((k : Int) + 1))) (.int .i64 ((k + 1 : Nat) : Int)) Zk (by rw [Kc hlt Zo]) ?_
  refine K0.next (⟨k + 1, by show k + 1 ≤ n; omega, by rw [Tj hx, hall, hb]; rfl⟩) Zk (by show n - (k + 1) < n - k; omega) ⟨Zk, Zk, Zk⟩ (fun u h => trivial)
 ·
  refine ZJ ((x.1.id == z)) true (hb) ?_
  refine K0.leave Zk ?_
  refine ZR ?_
  refine ZV (.int .i64 (k : Int)) (fun w1 hw h => ⟨⟨k, by rw [← hB, any_hit hx hb]; simp⟩, rfl, hw, fun _ _ _ => trivial⟩)
theorem mxd_nil : mxd [] = 0 := rfl
theorem mxd_at {l : List Nd} (hk : l[k]? = some N) : mxd (l.take (k + 1)) = N.dep + (if N.kind = 1 then 1 else 0) := mxd_snoc hk
theorem rstands_v (hp : Yc w A nl K Ns) (hn : Ns.length = n) (hk : Ns[k]? = some N) (hv : ∀ x ∈ Ns.take (k + 1), Lj x = true) (hn2 : n ≤ 1000000000) (hB : (!decide (N.dep > mxd (Ns.take k))) = B) : Calls Tryz.prog 140 #[.slice A n c, .int .i64 k] w (K5 w (fun _ : Unit => .bool B) fun _ _ => True) := by
 have hkl := (List.getElem?_eq_some_iff.1 hk).1
 obtain ⟨q, hq, _⟩ := hp.get hk
 obtain ⟨ad, hA, hc⟩ := hp.row.2 k _ hq
 have hd := dep_rng (hv N (List.mem_of_getElem? (i := k) (by rw [List.getElem?_take, if_pos Zo]; exact hk)))
 cases k with
 | zero =>
  rw [List.take_zero, mxd_nil] at hB
  refine K0.enter Tryz.func140 rfl ?_
  refine ZR ?_
  refine ZI true ?_
  refine K0.ask (Ke 24 (.slice A n c) (0 : Nat)) (.pointer (some (ad.add (0 * 47)))) Zk (fun w1 hw h => Mi (k := 0) hA Zo) ?_
  refine ZS 3 ?_
  refine ZA (Pr 48 (ad.add (0 * 47)) 2) (.pointer (some ((ad.add (0 * 47)).add 2))) (fun w1 hw h => L5 (d := 2) Zk) ?_
  refine ZA (L7 3 ((ad.add (0 * 47)).add 2)) (.int .i64 N.dep) (fun w1 hw h => K9 Zk (Ky hw (hc 2 _ rfl))) ?_
  exact ZX (.bool (N.dep == 0)) (by rw [← hB]; congr 2; rw [Bool.eq_iff_iff]; simp; omega)
 | succ j =>
  obtain ⟨M, hM⟩ : ∃ v, Ns[j]? = some v := ⟨_, List.getElem?_eq_getElem Zo⟩
  obtain ⟨q2, hq2, _⟩ := hp.get hM
  obtain ⟨ad2, hA2, hc2⟩ := hp.row.2 j _ hq2
  have hd2 := dep_rng (hv M (List.mem_of_getElem? (i := j) (by rw [List.getElem?_take, if_pos Zo]; exact hM)))
  rw [mxd_at hM] at hB
  have hw1 : Value.int .i64 (IntKind.i64.wrap (((j + 1 : Nat) : Int) - 1)) = .int .i64 (j : Int) := by rw [IntWalk.i64_in _ Zo]; congr 1; omega
  refine K0.enter Tryz.func140 rfl ?_
  refine ZR ?_
  refine K0.condr ((((j + 1 : Nat) : Int) == 0)) false Zk (beq_eq_false_iff_ne.2 Zo) ?_
  refine ZS 3 ?_
  refine K0.slot 15 (.int .i64 (IntKind.i64.wrap (((j + 1 : Nat) : Int) - 1))) (.int .i64 (j : Int)) Zk (hw1) ?_
  refine K0.askAt 3 (Ke 24 (.slice A n c) j) (.pointer (some (ad2.add (j * 47)))) Zk (fun w1 hw h => Mi hA2 Zo) ?_
  refine ZS 4 ?_
  refine K0.askAt 4 (Pr 48 (ad2.add (j * 47)) 1) (.pointer (some ((ad2.add (j * 47)).add 1))) Zk (fun w1 hw h => L5 (d := 1) Zk) ?_
  refine ZS 5 ?_
  refine K0.askAt 5 (L7 3 ((ad2.add (j * 47)).add 1)) (.int .i64 M.kind) Zk (fun w1 hw h => K9 Zk (Ky hw (hc2 1 _ rfl))) ?_
  refine ZS 8 ?_
  by_cases k1 : M.kind = 1
  ·
   refine K0.slot 20 (.bool (M.kind == 1)) (.bool true) Zk (by rw [beq_iff_eq.2 k1]) ?_
   refine ZS 10 ?_
   refine K0.askAt 10 (Ke 24 (.slice A n c) (j + 1 : Nat)) (.pointer (some (ad.add ((j + 1) * 47)))) Zk (fun w1 hw h => Mi hA Zo) ?_
   refine ZS 11 ?_
   refine K0.askAt 11 (Pr 48 (ad.add ((j + 1) * 47)) 2) (.pointer (some ((ad.add ((j + 1) * 47)).add 2))) Zk (fun w1 hw h => L5 (d := 2) Zk) ?_
   refine ZS 12 ?_
   refine K0.askAt 12 (L7 3 ((ad.add ((j + 1) * 47)).add 2)) (.int .i64 N.dep) Zk (fun w1 hw h => K9 Zk (Ky hw (hc 2 _ rfl))) ?_
   refine ZS 16 ?_
   refine K0.slot 28 (.int .i64 (IntKind.i64.wrap (((j + 1 : Nat) : Int) - 1))) (.int .i64 (j : Int)) Zk (hw1) ?_
   refine K0.askAt 16 (Ke 24 (.slice A n c) j) (.pointer (some (ad2.add (j * 47)))) Zk (fun w1 hw h => Mi hA2 Zo) ?_
   refine ZS 17 ?_
   refine K0.askAt 17 (Pr 48 (ad2.add (j * 47)) 2) (.pointer (some ((ad2.add (j * 47)).add 2))) Zk (fun w1 hw h => L5 (d := 2) Zk) ?_
   refine ZS 18 ?_
   refine K0.askAt 18 (L7 3 ((ad2.add (j * 47)).add 2)) (.int .i64 M.dep) Zk (fun w1 hw h => K9 Zk (Ky hw (hc2 2 _ rfl))) ?_
   refine ZS 20 ?_
   refine ZT 32 (.int .i64 (IntKind.i64.wrap (M.dep + 1))) (.int .i64 (M.dep + 1)) (by rw [IntWalk.i64_in _ Zo]) ?_
   rw [if_pos k1] at hB
   cases he : (N.dep == M.dep + 1)
   ·
    refine K0.condr ((N.dep == M.dep + 1)) false Zk (he) ?_
    refine ZS 2 ?_
    refine K0.askAt 2 (Ke 24 (.slice A n c) (j + 1 : Nat)) (.pointer (some (ad.add ((j + 1) * 47)))) Zk (fun w1 hw h => Mi hA Zo) ?_
    refine ZS 3 ?_
    refine K0.askAt 3 (Pr 48 (ad.add ((j + 1) * 47)) 2) (.pointer (some ((ad.add ((j + 1) * 47)).add 2))) Zk (fun w1 hw h => L5 (d := 2) Zk) ?_
    refine ZS 4 ?_
    refine K0.askAt 4 (L7 3 ((ad.add ((j + 1) * 47)).add 2)) (.int .i64 N.dep) Zk (fun w1 hw h => K9 Zk (Ky hw (hc 2 _ rfl))) ?_
    refine ZS 8 ?_
    refine K0.slot 42 (.int .i64 (IntKind.i64.wrap (((j + 1 : Nat) : Int) - 1))) (.int .i64 (j : Int)) Zk (hw1) ?_
    refine K0.askAt 8 (Ke 24 (.slice A n c) j) (.pointer (some (ad2.add (j * 47)))) Zk (fun w1 hw h => Mi hA2 Zo) ?_
    refine ZS 9 ?_
    refine K0.askAt 9 (Pr 48 (ad2.add (j * 47)) 2) (.pointer (some ((ad2.add (j * 47)).add 2))) Zk (fun w1 hw h => L5 (d := 2) Zk) ?_
    refine ZS 10 ?_
    refine ZB 10 (L7 3 ((ad2.add (j * 47)).add 2)) (.int .i64 M.dep) (fun w1 hw h => K9 Zk (Ky hw (hc2 2 _ rfl))) ?_
    exact ZX (.bool (decide (N.dep ≤ M.dep))) (by rw [← hB]; congr 2; rw [Bool.eq_iff_iff]; have := beq_eq_false_iff_ne.1 he; simp; omega)
   ·
    refine ZJ ((N.dep == M.dep + 1)) true (he) ?_
    exact ZX (.bool true) (by rw [← hB]; congr 2; have := beq_iff_eq.1 he; rw [decide_eq_false Zo]; rfl)
  ·
   refine K0.slot 20 (.bool (M.kind == 1)) (.bool false) Zk (by rw [beq_eq_false_iff_ne.2 k1]) ?_
   rw [if_neg k1] at hB
   refine ZR ?_
   refine K0.cond false Zk ?_
   refine ZS 2 ?_
   refine K0.askAt 2 (Ke 24 (.slice A n c) (j + 1 : Nat)) (.pointer (some (ad.add ((j + 1) * 47)))) Zk (fun w1 hw h => Mi hA Zo) ?_
   refine ZS 3 ?_
   refine K0.askAt 3 (Pr 48 (ad.add ((j + 1) * 47)) 2) (.pointer (some ((ad.add ((j + 1) * 47)).add 2))) Zk (fun w1 hw h => L5 (d := 2) Zk) ?_
   refine ZS 4 ?_
   refine K0.askAt 4 (L7 3 ((ad.add ((j + 1) * 47)).add 2)) (.int .i64 N.dep) Zk (fun w1 hw h => K9 Zk (Ky hw (hc 2 _ rfl))) ?_
   refine ZS 8 ?_
   refine K0.slot 42 (.int .i64 (IntKind.i64.wrap (((j + 1 : Nat) : Int) - 1))) (.int .i64 (j : Int)) Zk (hw1) ?_
   refine K0.askAt 8 (Ke 24 (.slice A n c) j) (.pointer (some (ad2.add (j * 47)))) Zk (fun w1 hw h => Mi hA2 Zo) ?_
   refine ZS 9 ?_
   refine K0.askAt 9 (Pr 48 (ad2.add (j * 47)) 2) (.pointer (some ((ad2.add (j * 47)).add 2))) Zk (fun w1 hw h => L5 (d := 2) Zk) ?_
   refine ZS 10 ?_
   refine ZB 10 (L7 3 ((ad2.add (j * 47)).add 2)) (.int .i64 M.dep) (fun w1 hw h => K9 Zk (Ky hw (hc2 2 _ rfl))) ?_
   exact ZX (.bool (decide (N.dep ≤ M.dep))) (by rw [← hB]; congr 2; rw [Bool.eq_iff_iff]; simp <;> omega)
def nodeB (Ns : List Nd) (k : Nat) (N : Nd) : Bool := Lj N && (!decide (N.id ∈ (Ns.take k).map (·.id)) && !decide (N.dep > mxd (Ns.take k)))
theorem any_ids {l : List (Nd × ND)} : l.any (fun x => x.1.id == z) = decide (z ∈ (l.map (·.1)).map (·.id)) := by
 rw [Bool.eq_iff_iff]
 simp only [List.any_eq_true, beq_iff_eq, decide_eq_true_eq, List.map_map, List.mem_map, Function.comp]
theorem rwrong_v (hp : Yc w A nl K Ns) (hn : Ns.length = n) (hf : NFs Ns) (hK : 2 ≤ K ∧ K ≤ 1000) (hcap : n ≤ c) (hk : Ns[k]? = some N) (hv : ∀ x ∈ Ns.take k, Lj x = true) (hn2 : n ≤ 1000000000) (hB : nodeB Ns k N = B) : Calls Tryz.prog 77 #[.slice A n c, .int .i64 k] w (K5 w (fun z : {z : Int // decide (z = 0) = B} => .int .i64 z.1) fun _ _ => True) := by
 unfold nodeB at hB
 have hkl := (List.getElem?_eq_some_iff.1 hk).1
 obtain ⟨q, hq, hrd⟩ := hp.get hk
 obtain ⟨ad, hA, hc⟩ := hp.row.2 k _ hq
 have hN := hf N (List.mem_of_getElem? hk)
 refine K0.enter Tryz.func77 rfl ?_
 refine ZR ?_
 refine ZA (Ke 24 (.slice A n c) k) (.pointer (some (ad.add (k * 47)))) (fun w1 hw h => Mi hA Zo) ?_
 refine ZA (L7 48 (ad.add (k * 47))) (noV N q) (fun w1 hw h => Xk fun j v hj => Ky hw (hc j v hj)) ?_
 cases hvn : Lj N
 ·rw [hvn, Bool.false_and] at hB
  refine ZC (fun w1 hw h => rcheck_v (hrd.below hw) hN hK hvn) fun z => ?_
  refine ZJ ((z.1 != 0)) true (by have := of_decide_eq_false z.2; simpa using this) ?_
  refine ZV (.int .i64 z.1) (fun w1 hw h => ⟨⟨z.1, by rw [z.2, ← hB]⟩, rfl, hw, fun _ _ _ => trivial⟩)
 rw [hvn, Bool.true_and] at hB
 have hv1 : ∀ x ∈ Ns.take (k + 1), Lj x = true := fun x hx => by
  rw [S1 hk] at hx
  rcases List.mem_append.1 hx with h | h
  ·exact hv x h
  ·obtain rfl : x = N := by simpa using h
   exact hvn
 refine ZC (fun w1 hw h => rcheck_v (hrd.below hw) hN hK hvn) fun z => ?_
 refine K0.condr ((z.1 != 0)) false Zk (by have := of_decide_eq_true z.2; simpa using this) ?_
 refine ZS 2 ?_
 refine K0.askAt 2 (slH 24 (.slice A n c) k) (.slice (if c = 0 then A else A.map (·.add 0)) k c) Zk (fun w1 hw h => run_slN (e := 48) (s := 47) Zk Zk Zk Zo) ?_
 refine ZS 5 ?_
 refine K0.askAt 5 (Ke 24 (.slice A n c) k) (.pointer (some (ad.add (k * 47)))) Zk (fun w1 hw h => Mi hA Zo) ?_
 refine ZS 6 ?_
 refine K0.askAt 6 (Pr 48 (ad.add (k * 47)) 0) (.pointer (some ((ad.add (k * 47)).add 0))) Zk (fun w1 hw h => L5 (d := 0) Zk) ?_
 refine ZS 7 ?_
 refine ZB 7 (L7 3 ((ad.add (k * 47)).add 0)) (.int .i64 N.id) (fun w1 hw h => K9 Zk (Ky hw (hc 0 _ rfl))) ?_
 obtain ⟨D, hD⟩ : ∃ D : Bool, D = decide (N.id ∈ (Ns.take k).map (·.id)) := ⟨_, rfl⟩
 rw [← hD] at hB
 have eids : (nl.take k).any (fun x => x.1.id == N.id) = D := by rw [hD, any_ids, List.map_take, hp.eq]
 refine ZC (fun w1 hw h => rfind_v (c := c) (nl := nl.take k) (show NdR w1 (if c = 0 then A else A.map (·.add 0)) k _ from (hp.row.below hw).upto Zo) Zo eids) fun r => ?_
 clear hD eids
 cases D
 case true =>
  refine ZJ (decide (r.1 ≥ 0)) true (r.2) ?_
  refine ZV (.int .i64 7) (fun w1 hw h => ⟨⟨7, by rw [← hB]; rfl⟩, rfl, hw, fun _ _ _ => trivial⟩)
 rw [Bool.not_false, Bool.true_and] at hB
 refine ZJ (decide (r.1 ≥ 0)) false (r.2) ?_
 refine ZC (fun w1 hw h => rstands_v (c := c) (hp.below hw) hn hk hv1 hn2 hB) fun u => ?_
 cases B
 ·
  refine ZI true ?_
  refine ZV (.int .i64 17) (fun w1 hw h => ⟨⟨17, rfl⟩, rfl, hw, fun _ _ _ => trivial⟩)
 ·
  refine ZI false ?_
  refine ZV (.int .i64 0) (fun w1 hw h => ⟨⟨0, rfl⟩, rfl, hw, fun _ _ _ => trivial⟩)
theorem nds_step2 {l : List Nd} {k : Nat} (hx : l[k]? = some N) (h : X4 (l.take k) (l.drop k) = B) : (nodeB l k N && X4 (l.take (k + 1)) (l.drop (k + 1))) = B := by
 rw [← nds_step hx h]
 unfold nodeB
 simp only [Bool.and_assoc]
theorem rscheck_v (hp : Yc w y.1 nl K S.nds) (hf : NFs S.nds) (hK : 2 ≤ K ∧ K ≤ 1000) (hcap : S.nds.length ≤ y.2) (hB : scOK S = B) : Calls Tryz.prog 42 #[soV S y] w (K5 w (fun z : {z : Int // decide (z = 0) = B} × Int => .tuple #[.int .i64 z.1.1, .int .i64 z.2]) fun _ _ => True) := by
 unfold scOK at hB
 refine K0.enter Tryz.func42 rfl ?_
 refine ZS 4 ?_
 refine K0.joinB Zk 1000 5 9 [10, 11, 12, 13] 14 true (decide (S.w > 256)) ((decide (S.w < 1)) || (decide (S.w > 256))) Zk Zk Zk (fun _ => by kernel_rfl) Ny (fun xj1 => ?_)
 refine K0.joinB Zk 1000 5 14 [15, 16, 17, 18] 19 true (decide (S.h < 1)) ((decide (S.w < 1) || decide (S.w > 256)) || (decide (S.h < 1))) Zk Zk Zk (fun _ => by kernel_rfl) Ny (fun xj2 => ?_)
 refine K0.joinB Zk 1000 4 19 [20, 21, 22] 23 true (decide (S.h > 256)) (((decide (S.w < 1) || decide (S.w > 256)) || decide (S.h < 1)) || (decide (S.h > 256))) Zk Zk Zk (fun _ => by kernel_rfl) Ny (fun xj3 => ?_)
 cases hs : sizeX S
 case true =>
  rw [hs] at hB
  refine ZT 23 (.bool (((decide (S.w < 1) || decide (S.w > 256)) || decide (S.h < 1)) || decide (S.h > 256))) (.bool true) (by rw [← hs]; rfl) ?_
  refine ZI true ?_
  refine ZV (.tuple #[.int .i64 6, .int .i64 0]) (fun w1 hw h => ⟨(⟨6, by rw [← hB]; rfl⟩, 0), rfl, hw, fun _ _ _ => trivial⟩)
 rw [hs, Bool.not_false, Bool.true_and] at hB
 refine ZT 23 (.bool (((decide (S.w < 1) || decide (S.w > 256)) || decide (S.h < 1)) || decide (S.h > 256))) (.bool false) (by rw [← hs]; rfl) ?_
 refine ZI false ?_
 cases hm : decide ((S.nds.length : Int) > 64)
 case true =>
  rw [hm] at hB
  refine ZJ (decide ((S.nds.length : Int) > 64)) true (hm) ?_
  refine ZV (.tuple #[.int .i64 5, .int .i64 64]) (fun w1 hw h => ⟨(⟨5, by rw [← hB]; rfl⟩, 64), rfl, hw, fun _ _ _ => trivial⟩)
 rw [hm, Bool.not_false, Bool.true_and] at hB
 have hn : S.nds.length ≤ 64 := by have := of_decide_eq_false hm; omega
 refine ZJ (decide ((S.nds.length : Int) > 64)) false (hm) ?_
 refine K0.loop (ι := {k : Nat // k ≤ S.nds.length ∧ (∀ x ∈ S.nds.take k, Lj x = true) ∧ X4 (S.nds.take k) (S.nds.drop k) = B}) 43 (fun k => ⟨[(1, .p 1 0), (4, .v (.int .i64 k.1))], [(1, (soC S y).map .v)]⟩) (fun k u => True) (fun k => S.nds.length - k.1) (⟨0, Nat.zero_le _, fun x hx => (by simp at hx), hB⟩) Zk (fun _ => by kernel_rfl) ⟨Zk, Zk, Zk⟩ (fun u h => trivial) ?_
 rintro ⟨k, hk, hv, hall⟩ gg
 have hk : k ≤ S.nds.length := hk
 have hv : ∀ x ∈ S.nds.take k, Lj x = true := hv
 have hall : X4 (S.nds.take k) (S.nds.drop k) = B := hall
 by_cases hlt : k < S.nds.length
 case neg =>
  refine ZR ?_
  refine ZJ (decide ((k : Int) < (S.nds.length : Int))) false Zp ?_
  refine K0.leave Zk ?_
  refine ZR ?_
  refine ZV (.tuple #[.int .i64 0, .int .i64 0]) (fun w1 hw h => ⟨(⟨0, by rw [← hall, List.drop_of_length_le Zo]; rfl⟩, 0), rfl, hw, fun _ _ _ => trivial⟩)
 obtain ⟨N, hx⟩ : ∃ v, S.nds[k]? = some v := ⟨_, List.getElem?_eq_getElem hlt⟩
 have hst := nds_step2 hx hall
 refine ZR ?_
 refine ZJ (decide ((k : Int) < (S.nds.length : Int))) true Zp ?_
 cases hb : nodeB S.nds k N
 ·rw [hb, Bool.false_and] at hst
  refine ZC (fun w1 hw h => rwrong_v (c := y.2) (hp.below hw) rfl hf hK hcap hx hv Zo hb) fun z => ?_
  refine ZJ ((z.1 != 0)) true (by have := of_decide_eq_false z.2; simpa using this) ?_
  refine K0.leave Zk ?_
  refine ZR ?_
  refine ZV (.tuple #[.int .i64 z.1, .int .i64 k]) (fun w1 hw h => ⟨(⟨z.1, by rw [z.2, ← hst]⟩, k), rfl, hw, fun _ _ _ => trivial⟩)
 rw [hb, Bool.true_and] at hst
 have hvN : Lj N = true := by unfold nodeB at hb; rw [Bool.and_eq_true] at hb; exact hb.1
 refine ZC (fun w1 hw h => rwrong_v (c := y.2) (hp.below hw) rfl hf hK hcap hx hv Zo hb) fun z => ?_
 refine ZJ ((z.1 != 0)) false (by have := of_decide_eq_true z.2; simpa using this) ?_
 refine K0.slot 4 (.int .i64 (IntKind.i64.wrap ((k : Int) + 1))) (.int .i64 ((k + 1 : Nat) : Int)) Zk (by rw [Kc hlt Zo]) ?_
 have hv2 : ∀ x ∈ S.nds.take (k + 1), Lj x = true := fun x hx2 => by
  rw [S1 hx] at hx2
  rcases List.mem_append.1 hx2 with h | h
  ·exact hv x h
  ·obtain rfl : x = N := by simpa using h
   exact hvN
 refine K0.next (⟨k + 1, by show k + 1 ≤ S.nds.length; omega, hv2, hst⟩) Zk (by show S.nds.length - (k + 1) < S.nds.length - k; omega) ⟨Zk, Zk, Zk⟩ (fun u h => trivial)
theorem rsvalid_v (hp : Yc w y.1 nl K S.nds) (hf : NFs S.nds) (hK : 2 ≤ K ∧ K ≤ 1000) (hcap : S.nds.length ≤ y.2) (hB : scOK S = B) : Calls Tryz.prog 18 #[soV S y] w (K5 w (fun _ : Unit => .bool B) fun _ _ => True) := by
 refine K0.enter Tryz.func18 rfl ?_
 refine ZR ?_
 refine ZC (fun w1 hw h => rscheck_v (hp.below hw) hf hK hcap hB) fun z => ?_
 exact ZX (.bool (z.1.1 == 0)) (congrArg (fun b => Ending.returned (Value.bool b)) z.1.2)
end
end
end Go.Proofs.YtdeepdckmhpldaaGreatDoor
