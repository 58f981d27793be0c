/-
 Paints as text: the reference's words; paints that are the same.
-/
import Derived.Test.YtncodmhgfkailaaGreatDoorPB
import Derived.Test.YtncodmhgfkailaaGreatDoorTA
import Derived.Test.YtncodmhgfkailaaGreatDoorYX
namespace Go.Proofs.YtncodmhgfkailaaGreatDoor
set_option maxRecDepth 100000
set_option maxHeartbeats 8000000
set_option linter.unusedVariables false
set_option linter.unusedSimpArgs false
open Go.RowKit
section
open Go.RowKit
--ATNAMES
def fldS (t : TypeId) (p : Addr) (f : Nat) : Sem Next := Instr.fieldAt t (.pointer (some p)) f >>= fun v => pure (.value v)
theorem Pu {P : Program} {t : TypeId} {p : Addr} {f d : Nat} {w : World} (h : effField P t f 0 0 = some ⟨.p 0 (0 + d), none⟩) : (fldS t p f).run P w = .ok (.value (.pointer (some (p.add d)))) w := by
 unfold effField at h
 split at h
 ·rename_i fs hu
  split at h
  ·rename_i fd hf
   split at h
   ·rename_i n hn
    injection h with h
    injection h with h _
    injection h with _ h
    rw [Nat.zero_add, Nat.zero_add] at h
    have hrun : (Instr.fieldAt t (.pointer (some p)) f).run P w = .ok (.pointer (some (p.add fd.offset))) w := by
     simp only [Instr.fieldAt, Sem.run_bind, run_underlying hu, Result.andThen_ok, hf, Instr.sureAddr, Sem.run_pure, fieldPlace, Ls hn, Nat.add_one_ne_zero, if_false]
    simp only [fldS, Sem.run_bind, hrun, Result.andThen_ok, Sem.run_pure, h]
   ·cases h
  ·cases h
 ·cases h
section
variable {w : World} {A A2 : Option Addr} {n c : Nat} {l : List (Int × Co)} {px : List Co} {P : Pn} {q : PM} {K : Nat} {B : Bool} {k x y : Int} {m : Im} {co : Co} {g : Nat}
theorem le8 (a b : UInt8) : decide ((a.toNat : Int) ≤ (b.toNat : Int)) = decide (a ≤ b) := decide_eq_decide.2 ⟨fun h => UInt8.le_iff_toNat_le.2 Zo, fun h => by have := UInt8.le_iff_toNat_le.1 h; omega⟩
theorem rcvalid_v (hB : pxOK co = B) : Calls Tryz.prog 184 #[P8 co] w (K5 w (fun _ : Unit => .bool B) fun _ _ => True) := by
 unfold pxOK at hB
 refine K0.enter Tryz.func184 rfl ?_
 refine ZS 6 ?_
 by_cases h0 : co.1 ≤ co.2.2.2
 case neg =>
  refine ZT 8 (.bool (decide ((co.1.toNat : Int) ≤ (co.2.2.2.toNat : Int)))) (.bool false) (by rw [le8, decide_eq_false h0]) ?_
  refine ZV (.bool false) (fun w1 hw h => ⟨(), by rw [← hB, decide_eq_false (fun h => h0 h.1)], hw, fun _ _ _ => trivial⟩)
 refine K0.slot 8 (.bool (decide ((co.1.toNat : Int) ≤ (co.2.2.2.toNat : Int)))) (.bool true) Zk (by rw [le8, decide_eq_true h0]) ?_
 refine ZS 13 ?_
 by_cases h1 : co.2.1 ≤ co.2.2.2
 case neg =>
  refine ZT 15 (.bool (decide ((co.2.1.toNat : Int) ≤ (co.2.2.2.toNat : Int)))) (.bool false) (by rw [le8, decide_eq_false h1]) ?_
  refine ZV (.bool false) (fun w1 hw h => ⟨(), by rw [← hB, decide_eq_false (fun h => h1 h.2.1)], hw, fun _ _ _ => trivial⟩)
 refine K0.slot 15 (.bool (decide ((co.2.1.toNat : Int) ≤ (co.2.2.2.toNat : Int)))) (.bool true) Zk (by rw [le8, decide_eq_true h1]) ?_
 refine ZS 19 ?_
 by_cases h2 : co.2.2.1 ≤ co.2.2.2
 case neg =>
  refine ZT 21 (.bool (decide ((co.2.2.1.toNat : Int) ≤ (co.2.2.2.toNat : Int)))) (.bool false) (by rw [le8, decide_eq_false h2]) ?_
  refine ZV (.bool false) (fun w1 hw h => ⟨(), by rw [← hB, decide_eq_false (fun h => h2 h.2.2)], hw, fun _ _ _ => trivial⟩)
 refine ZT 21 (.bool (decide ((co.2.2.1.toNat : Int) ≤ (co.2.2.2.toNat : Int)))) (.bool true) (by rw [le8, decide_eq_true h2]) ?_
 exact ZX (.bool true) (by rw [← hB, decide_eq_true ⟨h0, h1, h2⟩])
theorem rimvalid_v {y : Option Addr × Nat} (hB : imOK m = B) (hp : Qg w y.1 m.px.length 4 Ns m.px) (hn : m.px.length ≤ 1000000000) : Calls Tryz.prog 124 #[imV m y] w (K5 w (fun _ : Unit => .bool B) fun _ _ => True) := by
 unfold imOK at hB
 refine K0.enter Tryz.func124 rfl ?_
 refine ZR ?_
 cases h1 : Pj m.w m.h
 ·rw [h1, Bool.false_and, Bool.false_and] at hB
  refine ZC (fun w1 hw h => size_v h1) fun u => ?_
  refine ZR ?_
  refine ZI true ?_
  exact ZX (.bool false) (by rw [← hB])
 have hsz := of_decide_eq_true (show decide _ = true from h1)
 have hww := wrap_wh (x := m.w) (y := m.h) ⟨hsz.1, hsz.2.1⟩ ⟨hsz.2.2.1, hsz.2.2.2.1⟩
 rw [h1, Bool.true_and] at hB
 refine ZC (fun w1 hw h => size_v h1) fun u => ?_
 refine ZR ?_
 by_cases h4 : (m.px.length : Int) = m.w * m.h
 case neg =>
  refine ZJ (((m.px.length : Int) != IntKind.i64.wrap (m.w * m.h))) true (by rw [hww]; simpa using h4) ?_
  exact ZX (.bool false) (by rw [← hB, decide_eq_false h4]; rfl)
 rw [decide_eq_true h4, Bool.true_and] at hB
 refine ZJ (((m.px.length : Int) != IntKind.i64.wrap (m.w * m.h))) false (by rw [hww]; simpa using h4) ?_
 refine K0.loop (ι := {q : Nat // q ≤ m.px.length ∧ (m.px.take q).all pxOK = true}) 35 (fun q => ⟨[(1, .p 1 0), (3, .v (.int .i64 q.1))], [(1, [.v (.int .i64 m.w), .v (.int .i64 m.h), .v (.slice y.1 m.px.length y.2)])]⟩) (fun q u => True) (fun q => m.px.length - q.1) (⟨0, Nat.zero_le _, rfl⟩) Zk (fun _ => by kernel_rfl) ⟨Zk, Zk, Zk⟩ (fun u h => trivial) ?_
 rintro ⟨k, hk, hall⟩ gg
 have hk : k ≤ m.px.length := hk
 have hall : (m.px.take k).all pxOK = true := hall
 by_cases hlt : k < m.px.length
 case neg =>
  have hkn : m.px.length = k := by omega
  rw [List.take_of_length_le Zo] at hall
  refine ZR ?_
  refine ZJ (decide ((k : Int) < (m.px.length : Int))) false Zp ?_
  refine K0.leave Zk ?_
  refine ZR ?_
  exact ZX (.bool true) (by rw [← hB, hall])
 obtain ⟨x, hx⟩ : ∃ x, m.px[k]? = some x := ⟨_, List.getElem?_eq_getElem Zo⟩
 obtain ⟨ad, hA, hc⟩ := hp.2 k x hx
 refine ZR ?_
 refine ZJ (decide ((k : Int) < (m.px.length : Int))) true Zp ?_
 refine ZA (Kx 27 (.slice y.1 m.px.length y.2) k) (.pointer (some (ad.add (k * 4)))) (fun w1 hw h => px_idx hA hlt) ?_
 refine ZA (Ln 127 (ad.add (k * 4))) (.agg (Ns x).toArray) (fun w1 hw h => px_ld fun j v hj => Mw hw (hc j v hj)) ?_
 cases hb : pxOK x
 ·
  refine ZC (fun w1 hw h => rcvalid_v (co := x) hb) fun u => ?_
  refine ZI true ?_
  refine K0.leave Zk ?_
  refine ZR ?_
  exact ZX (.bool false) (by rw [← hB, all_bad hx hb])
 ·
  refine ZC (fun w1 hw h => rcvalid_v (co := x) hb) fun u => ?_
  refine ZI false ?_
  refine K0.slot 3 (.int .i64 (IntKind.i64.wrap ((k : Int) + 1))) (.int .i64 ((k + 1 : Nat) : Int)) Zk (by rw [Kf hlt Zo]) ?_
  refine K0.next (⟨k + 1, by show k + 1 ≤ m.px.length; omega, by rw [all_take hx hall, hb]⟩) Zk (by show m.px.length - (k + 1) < m.px.length - k; omega) ⟨Zk, Zk, Zk⟩ (fun u h => trivial)
theorem rgvalid_v (hB : Mi l = B) (hp : Qg w A n 5 P3 l) (hn : n ≤ 1000000000) : Calls Tryz.prog 122 #[.slice A n c] w (K5 w (fun _ : Unit => .bool B) fun _ _ => True) := by
 have hpn := hp.1
 unfold Mi at hB
 obtain ⟨C, hC⟩ : ∃ C, C = stOK 0 l := ⟨_, rfl⟩
 rw [← hC] at hB
 refine K0.enter Tryz.func122 rfl ?_
 refine ZR ?_
 refine K0.loop (ι := {q : Nat × Int // q.1 ≤ n ∧ stOK q.2 (l.drop q.1) = C ∧ 0 ≤ q.2 ∧ (q.1 = 0 → q.2 = 0) ∧ (0 < q.1 → ∃ y, l[q.1 - 1]? = some y ∧ y.1 = q.2)}) 50 (fun q => ⟨[(0, .v (.slice A n c)), (3, .v (.int .i64 q.1.1))], []⟩) (fun q u => True) (fun q => n - q.1.1) (⟨(0, 0), Nat.zero_le _, hC.symm, Int.le_refl 0, fun _ => rfl, fun h => absurd h Zd⟩) Zk (fun _ => by kernel_rfl) ⟨Zk, Zk, Zk⟩ (fun u h => trivial) ?_
 rintro ⟨⟨k, a⟩, hk, hst, ha0, hk0, hkp⟩ gg
 have hk : k ≤ n := hk
 have hst : stOK a (l.drop k) = C := hst
 have ha0 : 0 ≤ a := ha0
 have hk0 : k = 0 → a = 0 := hk0
 have hkp : 0 < k → ∃ y, l[k - 1]? = some y ∧ y.1 = a := hkp
 by_cases hlt : k < n
 case neg =>
  obtain rfl : k = n := by omega
  rw [List.drop_eq_nil_of_le Zo] at hst
  have hst : true = C := hst
  rw [← hst, Bool.and_true] at hB
  by_cases h1 : 1 ≤ k
  case neg =>
   refine ZR ?_
   refine ZJ (decide ((k : Int) < (k : Int))) false Zs ?_
   refine K0.leave Zk ?_
   refine ZS 4 ?_
   refine ZT 45 (.bool (decide ((k : Int) ≥ 1))) (.bool false) (by rw [decide_eq_false Zo]) ?_
   exact ZX (.bool false) (by rw [← hB, decide_eq_false Zo])
  refine ZR ?_
  refine ZJ (decide ((k : Int) < (k : Int))) false Zs ?_
  refine K0.leave Zk ?_
  refine ZS 4 ?_
  refine ZT 45 (.bool (decide ((k : Int) ≥ 1))) (.bool true) (by rw [decide_eq_true Zo]) ?_
  exact ZX (.bool (decide ((k : Int) ≤ 16))) (by rw [← hB]; congr 2; exact decide_eq_decide.2 Zo)
 obtain ⟨x, hx⟩ : ∃ x, l[k]? = some x := ⟨_, List.getElem?_eq_getElem Zo⟩
 obtain ⟨ad, hA, hc⟩ := hp.2 k x hx
 have e : stOK a (l.drop k) = (decide (a ≤ x.1 ∧ x.1 ≤ 65536) && stOK x.1 (l.drop (k + 1))) := by rw [drop_get hx]; rfl
 rw [e] at hst
 have hld : ∀ w1 : World, Below w.heap.size w w1 → (Ln 3 ((ad.add (k * 5)).add 0)).run Tryz.prog w1 = .ok (.value (.int .i64 x.1)) w1 := fun w1 hw => K9 Zk (Mw hw (hc 0 _ rfl))
 refine ZR ?_
 refine K0.condr (decide ((k : Int) < (n : Int))) true Zk Zp ?_
 refine ZS 2 ?_
 refine K0.askAt 2 (Kx 26 (.slice A n c) k) (.pointer (some (ad.add (k * 5)))) Zk (fun w1 hw h => st_idx hA Zo) ?_
 refine ZS 3 ?_
 refine K0.askAt 3 (fldS 104 (ad.add (k * 5)) 0) (.pointer (some ((ad.add (k * 5)).add 0))) Zk (fun w1 hw h => Pu (d := 0) Zk) ?_
 refine ZS 4 ?_
 refine K0.askAt 4 (Ln 3 ((ad.add (k * 5)).add 0)) (.int .i64 x.1) Zk (fun w1 hw h => hld w1 hw) ?_
 refine ZS 7 ?_
 by_cases h3 : x.1 < 0
 case pos =>
  rw [show decide (a ≤ x.1 ∧ x.1 ≤ 65536) = false from decide_eq_false Zo, Bool.false_and] at hst
  refine ZT 16 (.bool (decide (x.1 < 0))) (.bool true) (by rw [decide_eq_true h3]) ?_
  refine ZI true ?_
  refine K0.leave Zk ?_
  refine ZR ?_
  exact ZX (.bool false) (by rw [← hB, ← hst, Bool.and_false])
 refine K0.slot 16 (.bool (decide (x.1 < 0))) (.bool false) Zk (by rw [decide_eq_false h3]) ?_
 refine ZS 9 ?_
 refine K0.askAt 9 (Kx 26 (.slice A n c) k) (.pointer (some (ad.add (k * 5)))) Zk (fun w1 hw h => st_idx hA Zo) ?_
 refine ZS 10 ?_
 refine K0.askAt 10 (fldS 104 (ad.add (k * 5)) 0) (.pointer (some ((ad.add (k * 5)).add 0))) Zk (fun w1 hw h => Pu (d := 0) Zk) ?_
 refine ZS 11 ?_
 refine K0.askAt 11 (Ln 3 ((ad.add (k * 5)).add 0)) (.int .i64 x.1) Zk (fun w1 hw h => hld w1 hw) ?_
 refine ZS 15 ?_
 by_cases h4 : x.1 > 65536
 case pos =>
  rw [show decide (a ≤ x.1 ∧ x.1 ≤ 65536) = false from decide_eq_false Zo, Bool.false_and] at hst
  refine ZT 24 (.bool (decide (x.1 > 65536))) (.bool true) (by rw [decide_eq_true h4]) ?_
  refine ZI true ?_
  refine K0.leave Zk ?_
  refine ZR ?_
  exact ZX (.bool false) (by rw [← hB, ← hst, Bool.and_false])
 refine K0.slot 24 (.bool (decide (x.1 > 65536))) (.bool false) Zk (by rw [decide_eq_false h4]) ?_
 refine ZS 18 ?_
 by_cases hkz : k = 0
 case pos =>
  have haz := hk0 hkz
  rw [show decide (a ≤ x.1 ∧ x.1 ≤ 65536) = true from decide_eq_true Zo, Bool.true_and] at hst
  refine ZT 27 (.bool (decide ((k : Int) > 0))) (.bool false) (by rw [decide_eq_false Zo]) ?_
  refine ZI false ?_
  refine K0.slot 3 (.int .i64 (IntKind.i64.wrap ((k : Int) + 1))) (.int .i64 ((k + 1 : Nat) : Int)) Zk (by rw [Kf hlt Zo]) ?_
  refine K0.next (⟨(k + 1, x.1), by show k + 1 ≤ n; omega, hst, by show 0 ≤ x.1; omega, fun h => absurd h (Nat.succ_ne_zero k), fun _ => ⟨x, hx, rfl⟩⟩) Zk (by show n - (k + 1) < n - k; omega) ⟨Zk, Zk, Zk⟩ (fun u h => trivial)
 obtain ⟨y, hy, hya⟩ := hkp Zo
 obtain ⟨ad2, hA2, hc2⟩ := hp.2 (k - 1) y hy
 rw [hA] at hA2
 cases hA2
 have hld2 : ∀ w1 : World, Below w.heap.size w w1 → (Ln 3 ((ad.add ((k - 1) * 5)).add 0)).run Tryz.prog w1 = .ok (.value (.int .i64 y.1)) w1 := fun w1 hw => K9 Zk (Mw hw (hc2 0 _ rfl))
 refine K0.slot 27 (.bool (decide ((k : Int) > 0))) (.bool true) Zk (by rw [decide_eq_true Zo]) ?_
 refine ZS 20 ?_
 refine K0.askAt 20 (Kx 26 (.slice A n c) k) (.pointer (some (ad.add (k * 5)))) Zk (fun w1 hw h => st_idx hA Zo) ?_
 refine ZS 21 ?_
 refine K0.askAt 21 (fldS 104 (ad.add (k * 5)) 0) (.pointer (some ((ad.add (k * 5)).add 0))) Zk (fun w1 hw h => Pu (d := 0) Zk) ?_
 refine ZS 22 ?_
 refine K0.askAt 22 (Ln 3 ((ad.add (k * 5)).add 0)) (.int .i64 x.1) Zk (fun w1 hw h => hld w1 hw) ?_
 refine ZS 26 ?_
 refine K0.slot 35 (.int .i64 (IntKind.i64.wrap ((k : Int) - 1))) (.int .i64 ((k - 1 : Nat) : Int)) Zk (by rw [IntWalk.i64_in _ Zo]; congr 1; omega) ?_
 refine K0.askAt 26 (Kx 26 (.slice A n c) ((k - 1 : Nat) : Int)) (.pointer (some (ad.add ((k - 1) * 5)))) Zk (fun w1 hw h => st_idx hA Zo) ?_
 refine ZS 27 ?_
 refine K0.askAt 27 (fldS 104 (ad.add ((k - 1) * 5)) 0) (.pointer (some ((ad.add ((k - 1) * 5)).add 0))) Zk (fun w1 hw h => Pu (d := 0) Zk) ?_
 refine ZS 28 ?_
 refine ZB 28 (Ln 3 ((ad.add ((k - 1) * 5)).add 0)) (.int .i64 y.1) (fun w1 hw h => hld2 w1 hw) ?_
 by_cases h5 : x.1 < y.1
 case pos =>
  rw [show decide (a ≤ x.1 ∧ x.1 ≤ 65536) = false from decide_eq_false Zo, Bool.false_and] at hst
  refine ZR ?_
  refine ZJ (decide (x.1 < y.1)) true (by simpa using h5) ?_
  refine K0.leave Zk ?_
  refine ZR ?_
  exact ZX (.bool false) (by rw [← hB, ← hst, Bool.and_false])
 rw [show decide (a ≤ x.1 ∧ x.1 ≤ 65536) = true from decide_eq_true Zo, Bool.true_and] at hst
 refine ZR ?_
 refine ZJ (decide (x.1 < y.1)) false (by simpa using h5) ?_
 refine K0.slot 3 (.int .i64 (IntKind.i64.wrap ((k : Int) + 1))) (.int .i64 ((k + 1 : Nat) : Int)) Zk (by rw [Kf hlt Zo]) ?_
 refine K0.next (⟨(k + 1, x.1), by show k + 1 ≤ n; omega, hst, by show 0 ≤ x.1; omega, fun h => absurd h (Nat.succ_ne_zero k), fun _ => ⟨x, hx, rfl⟩⟩) Zk (by show n - (k + 1) < n - k; omega) ⟨Zk, Zk, Zk⟩ (fun u h => trivial)
def img0 (P : Pn) : Bool := decide (P.im.w = 0 ∧ P.im.h = 0 ∧ P.im.px = [] ∧ P.samp = 0)
def ramp0 (P : Pn) : Bool := decide ((P.p0x = 0 ∧ P.p0y = 0) ∧ (P.p1x = 0 ∧ P.p1y = 0) ∧ P.rad = 0 ∧ P.stops = [])
theorem rimage_v (hB : img0 P = B) : Calls Tryz.prog 119 #[O5 P q] w (K5 w (fun _ : Unit => .bool B) fun _ _ => True) := by
 unfold img0 at hB
 refine K0.enter Tryz.func119 rfl ?_
 refine ZS 5 ?_
 by_cases h0 : P.im.w = 0
 case neg =>
  refine ZT 7 (.bool (P.im.w == 0)) (.bool false) (by rw [beq_eq_false_iff_ne.2 h0]) ?_
  refine ZV (.bool false) (fun w1 hw h => ⟨(), by rw [← hB, decide_eq_false (fun h => h0 h.1)], hw, fun _ _ _ => trivial⟩)
 refine K0.slot 7 (.bool (P.im.w == 0)) (.bool true) Zk (by rw [beq_iff_eq.2 h0]) ?_
 refine ZS 11 ?_
 by_cases h1 : P.im.h = 0
 case neg =>
  refine ZT 13 (.bool (P.im.h == 0)) (.bool false) (by rw [beq_eq_false_iff_ne.2 h1]) ?_
  refine ZV (.bool false) (fun w1 hw h => ⟨(), by rw [← hB, decide_eq_false (fun h => h1 h.2.1)], hw, fun _ _ _ => trivial⟩)
 refine K0.slot 13 (.bool (P.im.h == 0)) (.bool true) Zk (by rw [beq_iff_eq.2 h1]) ?_
 refine ZS 18 ?_
 by_cases h2 : P.im.px = []
 case neg =>
  refine ZT 20 (.bool ((P.im.px.length : Int) == 0)) (.bool false) (by rw [beq_eq_false_iff_ne.2 (by rw [Ne, Int.ofNat_eq_zero, List.length_eq_zero_iff]; exact h2)]) ?_
  refine ZV (.bool false) (fun w1 hw h => ⟨(), by rw [← hB, decide_eq_false (fun h => h2 h.2.2.1)], hw, fun _ _ _ => trivial⟩)
 refine K0.slot 20 (.bool ((P.im.px.length : Int) == 0)) (.bool true) Zk (by rw [h2]; rfl) ?_
 refine ZS 22 ?_
 by_cases h3 : P.samp = 0
 case neg =>
  refine ZT 24 (.bool (P.samp == 0)) (.bool false) (by rw [beq_eq_false_iff_ne.2 h3]) ?_
  refine ZV (.bool false) (fun w1 hw h => ⟨(), by rw [← hB, decide_eq_false (fun h => h3 h.2.2.2)], hw, fun _ _ _ => trivial⟩)
 refine ZT 24 (.bool (P.samp == 0)) (.bool true) (by rw [beq_iff_eq.2 h3]) ?_
 refine ZR ?_
 exact ZX (.bool true) (by rw [← hB, decide_eq_true ⟨h0, h1, h2, h3⟩])
theorem rramp_v (hB : ramp0 P = B) : Calls Tryz.prog 118 #[O5 P q] w (K5 w (fun _ : Unit => .bool B) fun _ _ => True) := by
 unfold ramp0 at hB
 refine K0.enter Tryz.func118 rfl ?_
 refine ZS 3 ?_
 by_cases h0 : P.p0x = 0 ∧ P.p0y = 0
 case neg =>
  refine ZA (eqP 25 (.tmp 4) (.tmp 5) (pt P.p0x P.p0y) (pt 0 0)) (.bool false) (fun w1 hw h => eq_pt0 (decide_eq_false h0)) ?_
  refine ZR ?_
  refine ZV (.bool false) (fun w1 hw h => ⟨(), by rw [← hB, decide_eq_false (fun h => h0 h.1)], hw, fun _ _ _ => trivial⟩)
 refine K0.ask (eqP 25 (.tmp 4) (.tmp 5) (pt P.p0x P.p0y) (pt 0 0)) (.bool true) Zk (fun w1 hw h => eq_pt0 (decide_eq_true h0)) ?_
 refine ZS 8 ?_
 by_cases h1 : P.p1x = 0 ∧ P.p1y = 0
 case neg =>
  refine ZA (eqP 25 (.tmp 9) (.tmp 10) (pt P.p1x P.p1y) (pt 0 0)) (.bool false) (fun w1 hw h => eq_pt0 (decide_eq_false h1)) ?_
  refine ZR ?_
  refine ZV (.bool false) (fun w1 hw h => ⟨(), by rw [← hB, decide_eq_false (fun h => h1 h.2.1)], hw, fun _ _ _ => trivial⟩)
 refine K0.ask (eqP 25 (.tmp 9) (.tmp 10) (pt P.p1x P.p1y) (pt 0 0)) (.bool true) Zk (fun w1 hw h => eq_pt0 (decide_eq_true h1)) ?_
 refine ZS 16 ?_
 by_cases h2 : P.rad = 0
 case neg =>
  refine ZT 18 (.bool (P.rad == 0)) (.bool false) (by rw [beq_eq_false_iff_ne.2 h2]) ?_
  refine ZV (.bool false) (fun w1 hw h => ⟨(), by rw [← hB, decide_eq_false (fun h => h2 h.2.2.1)], hw, fun _ _ _ => trivial⟩)
 refine K0.slot 18 (.bool (P.rad == 0)) (.bool true) Zk (by rw [beq_iff_eq.2 h2]) ?_
 refine ZS 21 ?_
 by_cases h3 : P.stops = []
 case neg =>
  refine ZT 23 (.bool ((P.stops.length : Int) == 0)) (.bool false) (by rw [beq_eq_false_iff_ne.2 (by rw [Ne, Int.ofNat_eq_zero, List.length_eq_zero_iff]; exact h3)]) ?_
  refine ZV (.bool false) (fun w1 hw h => ⟨(), by rw [← hB, decide_eq_false (fun h => h3 h.2.2.2)], hw, fun _ _ _ => trivial⟩)
 refine ZT 23 (.bool ((P.stops.length : Int) == 0)) (.bool true) (by rw [h3]; rfl) ?_
 exact ZX (.bool true) (by rw [← hB, decide_eq_true ⟨h0, h1, h2, h3⟩])
theorem rzero_v {t : TV} {T : Aff} (hB : eqA T Nw = B) (ht : IsA t T K w) (hK : 2 ≤ K ∧ K ≤ 10000000) : Calls Tryz.prog 120 #[t.val] w (K5 w (fun _ : Unit => .bool B) fun _ _ => True) := by
 refine K0.enter Tryz.func120 rfl ?_
 refine ZR ?_
 refine ZC (fun w1 hw h => requalA_v hB (ht.below hw) (IsA.zero (w := w1)) hK) fun u => ?_
 exact ZW (.bool B)
theorem rspread_v (hB : Qn x = B) : Calls Tryz.prog 123 #[.int .i64 x] w (K5 w (fun _ : Unit => .bool B) fun _ _ => True) := by
 unfold Qn at hB
 refine K0.enter Tryz.func123 rfl ?_
 refine ZS 3 ?_
 by_cases h1 : 1 ≤ x
 case neg =>
  refine ZT 5 (.bool (decide (x ≥ 1))) (.bool false) (by rw [decide_eq_false Zo]) ?_
  exact ZX (.bool false) (by rw [← hB, decide_eq_false Zo])
 refine ZT 5 (.bool (decide (x ≥ 1))) (.bool true) (by rw [decide_eq_true Zo]) ?_
 exact ZX (.bool (decide (x ≤ 3))) (by rw [← hB]; congr 2; exact decide_eq_decide.2 Zo)
theorem rvecv {X Y : Int} (hB : Mg X Y = B) : Calls Tryz.prog 121 #[pt X Y] w (K5 w (fun _ : Unit => .bool B) fun _ _ => True) := by subst hB; exact rvalid_m
theorem samp2 {z : Int} (h : ¬ z = 1) : (z == 2) = decide (z = 1 ∨ z = 2) := by
 rw [Bool.eq_iff_iff, beq_iff_eq, decide_eq_true_iff]
 exact ⟨.inr, fun k => k.resolve_left h⟩
def hasB (P : Pn) : Bool :=
 if P.kind = 1 then ramp0 P && (img0 P && (decide (P.spread = 0) && eqA P.T Nw))
 else if P.kind = 2 then img0 P && (decide (P.co = Pp) && (decide (P.rad = 0) && (Mg P.p0x P.p0y && (Mg P.p1x P.p1y && (Mi P.stops && Qn P.spread)))))
 else if P.kind = 3 then img0 P && (decide (P.co = Pp) && (decide (P.p1x = 0 ∧ P.p1y = 0) && (Mg P.p0x P.p0y && (decide (1 ≤ P.rad) && (decide (P.rad ≤ 1048576) && (Mi P.stops && Qn P.spread))))))
 else if P.kind = 4 then ramp0 P && (decide (P.co = Pp) && (imOK P.im && ((decide (P.spread = 0) || Qn P.spread) && decide (P.samp = 1 ∨ P.samp = 2))))
 else false
theorem has_v (hB : hasB P = B) (hp : PRd P q K w) (hK : 2 ≤ K ∧ K ≤ 10000000) (hl : P.im.px.length ≤ 1000000000) (hsl : P.stops.length ≤ 1000000000) : Calls Tryz.prog 56 #[O5 P q] w (K5 w (fun _ : Unit => .bool B) fun _ _ => True) := by
 unfold hasB at hB
 refine K0.enter Tryz.func56 rfl ?_
 refine ZR ?_
 by_cases k1 : P.kind = 1
 case pos =>
  rw [if_pos k1] at hB
  refine ZJ ((P.kind == 1)) true (beq_iff_eq.2 k1) ?_
  cases c1 : ramp0 P
  ·
   rw [c1, Bool.false_and] at hB
   refine ZC (fun w1 hw h => rramp_v (q := q) c1) fun u_c1 => ?_
   refine ZR ?_
   exact ZX (.bool false) (by rw [← hB])
  rw [c1, Bool.true_and] at hB
  refine ZC (fun w1 hw h => rramp_v (q := q) c1) fun u_c1 => ?_
  cases c2 : img0 P
  ·
   rw [c2, Bool.false_and] at hB
   refine ZC (fun w1 hw h => rimage_v (q := q) c2) fun u_c2 => ?_
   refine ZR ?_
   exact ZX (.bool false) (by rw [← hB])
  rw [c2, Bool.true_and] at hB
  refine ZD 12 (fun w1 hw h => rimage_v (q := q) c2) fun u_c2 => ?_
  by_cases c3 : P.spread = 0
  case neg =>
   rw [decide_eq_false c3, Bool.false_and] at hB
   refine ZT 18 (.bool (P.spread == 0)) (.bool false) (by rw [beq_eq_false_iff_ne.2 c3]) ?_
   exact ZX (.bool false) (by rw [← hB])
  rw [decide_eq_true c3, Bool.true_and] at hB
  refine ZT 18 (.bool (P.spread == 0)) (.bool true) (by rw [beq_iff_eq.2 c3]) ?_
  cases c4 : eqA P.T Nw
  ·
   rw [c4] at hB
   refine ZC (fun w1 hw h => rzero_v c4 (hp.tr.below hw) hK) fun u_c4 => ?_
   refine ZR ?_
   exact ZX (.bool false) (by rw [← hB])
  rw [c4] at hB
  refine ZC (fun w1 hw h => rzero_v c4 (hp.tr.below hw) hK) fun u_c4 => ?_
  refine ZR ?_
  exact ZX (.bool true) (by rw [← hB])
 refine ZJ ((P.kind == 1)) false (beq_eq_false_iff_ne.2 k1) ?_
 by_cases k2 : P.kind = 2
 case pos =>
  rw [if_neg k1, if_pos k2] at hB
  refine ZJ ((P.kind == 2)) true (beq_iff_eq.2 k2) ?_
  cases c1 : img0 P
  ·
   rw [c1, Bool.false_and] at hB
   refine ZC (fun w1 hw h => rimage_v (q := q) c1) fun u_c1 => ?_
   refine ZR ?_
   exact ZX (.bool false) (by rw [← hB])
  rw [c1, Bool.true_and] at hB
  refine ZD 6 (fun w1 hw h => rimage_v (q := q) c1) fun u_c1 => ?_
  by_cases c2 : P.co = Pp
  case neg =>
   rw [decide_eq_false c2, Bool.false_and] at hB
   refine ZA (eqP 23 (.tmp 29) (.tmp 30) (P8 P.co) (P8 Pp)) (.bool false) (fun w1 hw h => O9 (decide_eq_false c2)) ?_
   refine ZR ?_
   exact ZX (.bool false) (by rw [← hB])
  rw [decide_eq_true c2, Bool.true_and] at hB
  refine K0.ask (eqP 23 (.tmp 29) (.tmp 30) (P8 P.co) (P8 Pp)) (.bool true) Zk (fun w1 hw h => O9 (decide_eq_true c2)) ?_
  refine ZS 14 ?_
  by_cases c3 : P.rad = 0
  case neg =>
   rw [decide_eq_false c3, Bool.false_and] at hB
   refine ZT 38 (.bool (P.rad == 0)) (.bool false) (by rw [beq_eq_false_iff_ne.2 c3]) ?_
   exact ZX (.bool false) (by rw [← hB])
  rw [decide_eq_true c3, Bool.true_and] at hB
  refine ZT 38 (.bool (P.rad == 0)) (.bool true) (by rw [beq_iff_eq.2 c3]) ?_
  cases c4 : Mg P.p0x P.p0y
  ·
   rw [c4, Bool.false_and] at hB
   refine ZC (fun w1 hw h => rvecv c4) fun u_c4 => ?_
   refine ZR ?_
   exact ZX (.bool false) (by rw [← hB])
  rw [c4, Bool.true_and] at hB
  refine ZC (fun w1 hw h => rvecv c4) fun u_c4 => ?_
  cases c5 : Mg P.p1x P.p1y
  ·
   rw [c5, Bool.false_and] at hB
   refine ZC (fun w1 hw h => rvecv c5) fun u_c5 => ?_
   refine ZR ?_
   exact ZX (.bool false) (by rw [← hB])
  rw [c5, Bool.true_and] at hB
  refine ZC (fun w1 hw h => rvecv c5) fun u_c5 => ?_
  cases c6 : Mi P.stops
  ·
   rw [c6, Bool.false_and] at hB
   refine ZC (fun w1 hw h => rgvalid_v (c := q.sc) c6 (hp.st.below hw) hsl) fun u_c6 => ?_
   refine ZR ?_
   exact ZX (.bool false) (by rw [← hB])
  rw [c6, Bool.true_and] at hB
  refine ZC (fun w1 hw h => rgvalid_v (c := q.sc) c6 (hp.st.below hw) hsl) fun u_c6 => ?_
  cases c7 : Qn P.spread
  ·
   rw [c7] at hB
   refine ZC (fun w1 hw h => rspread_v c7) fun u_c7 => ?_
   refine ZR ?_
   exact ZX (.bool false) (by rw [← hB])
  rw [c7] at hB
  refine ZC (fun w1 hw h => rspread_v c7) fun u_c7 => ?_
  refine ZR ?_
  exact ZX (.bool true) (by rw [← hB])
 refine ZJ ((P.kind == 2)) false (beq_eq_false_iff_ne.2 k2) ?_
 by_cases k3 : P.kind = 3
 case pos =>
  rw [if_neg k1, if_neg k2, if_pos k3] at hB
  refine ZJ ((P.kind == 3)) true (beq_iff_eq.2 k3) ?_
  cases c1 : img0 P
  ·
   rw [c1, Bool.false_and] at hB
   refine ZC (fun w1 hw h => rimage_v (q := q) c1) fun u_c1 => ?_
   refine ZR ?_
   exact ZX (.bool false) (by rw [← hB])
  rw [c1, Bool.true_and] at hB
  refine ZD 6 (fun w1 hw h => rimage_v (q := q) c1) fun u_c1 => ?_
  by_cases c2 : P.co = Pp
  case neg =>
   rw [decide_eq_false c2, Bool.false_and] at hB
   refine ZA (eqP 23 (.tmp 64) (.tmp 65) (P8 P.co) (P8 Pp)) (.bool false) (fun w1 hw h => O9 (decide_eq_false c2)) ?_
   refine ZR ?_
   exact ZX (.bool false) (by rw [← hB])
  rw [decide_eq_true c2, Bool.true_and] at hB
  refine K0.ask (eqP 23 (.tmp 64) (.tmp 65) (P8 P.co) (P8 Pp)) (.bool true) Zk (fun w1 hw h => O9 (decide_eq_true c2)) ?_
  refine ZS 12 ?_
  by_cases c3 : P.p1x = 0 ∧ P.p1y = 0
  case neg =>
   rw [decide_eq_false c3, Bool.false_and] at hB
   refine ZA (eqP 25 (.tmp 70) (.tmp 71) (pt P.p1x P.p1y) (pt 0 0)) (.bool false) (fun w1 hw h => eq_pt0 (decide_eq_false c3)) ?_
   refine ZR ?_
   exact ZX (.bool false) (by rw [← hB])
  rw [decide_eq_true c3, Bool.true_and] at hB
  refine ZA (eqP 25 (.tmp 70) (.tmp 71) (pt P.p1x P.p1y) (pt 0 0)) (.bool true) (fun w1 hw h => eq_pt0 (decide_eq_true c3)) ?_
  cases c4 : Mg P.p0x P.p0y
  ·
   rw [c4, Bool.false_and] at hB
   refine ZC (fun w1 hw h => rvecv c4) fun u_c4 => ?_
   refine ZR ?_
   exact ZX (.bool false) (by rw [← hB])
  rw [c4, Bool.true_and] at hB
  refine ZD 25 (fun w1 hw h => rvecv c4) fun u_c4 => ?_
  by_cases c5 : 1 ≤ P.rad
  case neg =>
   rw [decide_eq_false c5, Bool.false_and] at hB
   refine ZT 84 (.bool (decide (P.rad ≥ 1))) (.bool false) (by rw [decide_eq_false c5]) ?_
   exact ZX (.bool false) (by rw [← hB])
  rw [decide_eq_true c5, Bool.true_and] at hB
  refine K0.slot 84 (.bool (decide (P.rad ≥ 1))) (.bool true) Zk (by rw [decide_eq_true c5]) ?_
  refine ZS 30 ?_
  by_cases c6 : P.rad ≤ 1048576
  case neg =>
   rw [decide_eq_false c6, Bool.false_and] at hB
   refine ZT 89 (.bool (decide (P.rad ≤ 1048576))) (.bool false) (by rw [decide_eq_false c6]) ?_
   exact ZX (.bool false) (by rw [← hB])
  rw [decide_eq_true c6, Bool.true_and] at hB
  refine ZT 89 (.bool (decide (P.rad ≤ 1048576))) (.bool true) (by rw [decide_eq_true c6]) ?_
  cases c7 : Mi P.stops
  ·
   rw [c7, Bool.false_and] at hB
   refine ZC (fun w1 hw h => rgvalid_v (c := q.sc) c7 (hp.st.below hw) hsl) fun u_c7 => ?_
   refine ZR ?_
   exact ZX (.bool false) (by rw [← hB])
  rw [c7, Bool.true_and] at hB
  refine ZC (fun w1 hw h => rgvalid_v (c := q.sc) c7 (hp.st.below hw) hsl) fun u_c7 => ?_
  cases c8 : Qn P.spread
  ·
   rw [c8] at hB
   refine ZC (fun w1 hw h => rspread_v c8) fun u_c8 => ?_
   refine ZR ?_
   exact ZX (.bool false) (by rw [← hB])
  rw [c8] at hB
  refine ZC (fun w1 hw h => rspread_v c8) fun u_c8 => ?_
  refine ZR ?_
  exact ZX (.bool true) (by rw [← hB])
 refine ZJ ((P.kind == 3)) false (beq_eq_false_iff_ne.2 k3) ?_
 by_cases k4 : P.kind = 4
 case pos =>
  rw [if_neg k1, if_neg k2, if_neg k3, if_pos k4] at hB
  refine ZJ ((P.kind == 4)) true (beq_iff_eq.2 k4) ?_
  cases c1 : ramp0 P
  ·
   rw [c1, Bool.false_and] at hB
   refine ZC (fun w1 hw h => rramp_v (q := q) c1) fun u_c1 => ?_
   refine ZR ?_
   exact ZX (.bool false) (by rw [← hB])
  rw [c1, Bool.true_and] at hB
  refine ZD 6 (fun w1 hw h => rramp_v (q := q) c1) fun u_c1 => ?_
  by_cases c2 : P.co = Pp
  case neg =>
   rw [decide_eq_false c2, Bool.false_and] at hB
   refine ZA (eqP 23 (.tmp 105) (.tmp 106) (P8 P.co) (P8 Pp)) (.bool false) (fun w1 hw h => O9 (decide_eq_false c2)) ?_
   refine ZR ?_
   exact ZX (.bool false) (by rw [← hB])
  rw [decide_eq_true c2, Bool.true_and] at hB
  refine ZA (eqP 23 (.tmp 105) (.tmp 106) (P8 P.co) (P8 Pp)) (.bool true) (fun w1 hw h => O9 (decide_eq_true c2)) ?_
  cases c3 : imOK P.im
  ·
   rw [c3, Bool.false_and] at hB
   refine ZC (fun w1 hw h => rimvalid_v (y := (q.xA, q.xc)) c3 (hp.px.below hw) hl) fun u_c3 => ?_
   refine ZR ?_
   exact ZX (.bool false) (by rw [← hB])
  rw [c3, Bool.true_and] at hB
  refine ZD 18 (fun w1 hw h => rimvalid_v (y := (q.xA, q.xc)) c3 (hp.px.below hw) hl) fun u_c3 => ?_
  by_cases s0 : P.spread = 0
  case pos =>
   rw [decide_eq_true s0, Bool.true_or, Bool.true_and] at hB
   refine K0.slot 118 (.bool (P.spread == 0)) (.bool true) Zk (by rw [beq_iff_eq.2 s0]) ?_
   refine ZS 28 ?_
   by_cases m1 : P.samp = 1
   case pos =>
    rw [decide_eq_true (.inl m1)] at hB
    refine ZT 128 (.bool (P.samp == 1)) (.bool true) (by rw [beq_iff_eq.2 m1]) ?_
    exact ZX (.bool true) (by rw [← hB])
   refine ZT 128 (.bool (P.samp == 1)) (.bool false) (by rw [beq_eq_false_iff_ne.2 m1]) ?_
   exact ZX (.bool (P.samp == 2)) (by rw [← hB, samp2 m1])
  rw [decide_eq_false s0, Bool.false_or] at hB
  cases c5 : Qn P.spread
  ·
   rw [c5, Bool.false_and] at hB
   refine ZT 118 (.bool (P.spread == 0)) (.bool false) (by rw [beq_eq_false_iff_ne.2 s0]) ?_
   refine ZC (fun w1 hw h => rspread_v c5) fun u9 => ?_
   refine ZR ?_
   exact ZX (.bool false) (by rw [← hB])
  rw [c5, Bool.true_and] at hB
  refine ZT 118 (.bool (P.spread == 0)) (.bool false) (by rw [beq_eq_false_iff_ne.2 s0]) ?_
  refine ZD 28 (fun w1 hw h => rspread_v c5) fun u9 => ?_
  by_cases m1 : P.samp = 1
  case pos =>
   rw [decide_eq_true (.inl m1)] at hB
   refine ZT 128 (.bool (P.samp == 1)) (.bool true) (by rw [beq_iff_eq.2 m1]) ?_
   exact ZX (.bool true) (by rw [← hB])
  refine ZT 128 (.bool (P.samp == 1)) (.bool false) (by rw [beq_eq_false_iff_ne.2 m1]) ?_
  exact ZX (.bool (P.samp == 2)) (by rw [← hB, samp2 m1])
 rw [if_neg k1, if_neg k2, if_neg k3, if_neg k4] at hB
 refine ZJ ((P.kind == 4)) false (beq_eq_false_iff_ne.2 k4) ?_
 exact ZX (.bool false) (by rw [← hB])
end
end
section
open Go.RowKit
--ATNAMES
theorem valid_has (P : Pn) : Lk P = (P.T.ok && (hasB P && (decide (P.kind = 1) || decide (P.T.det ≠ 0)))) := by
 unfold Lk kindOK hasB ramp0 img0 imOK
 rw [Bool.eq_iff_iff]
 by_cases k1 : P.kind = 1
 ·simp [k1, zeroP, wof, Pp]
  grind
 by_cases k2 : P.kind = 2
 ·simp [k2, zeroP, wof, Pp]
  grind
 by_cases k3 : P.kind = 3
 ·simp [k3, zeroP, wof, Pp]
  grind
 by_cases k4 : P.kind = 4
 ·simp [k4, zeroP, wof, Pp, im0]
  grind
 simp [k1, k2, k3, k4]
section
variable {w : World} {A A2 : Option Addr} {n c : Nat} {l : List (Int × Co)} {px : List Co} {P : Pn} {q : PM} {K : Nat} {B : Bool} {x y : Int} {m : Im} {co : Co} {t : TV} {T : Aff}
theorem rpvalid_v (hB : Lk P = B) (hp : PRd P q K w) (hK : 2 ≤ K ∧ K ≤ 1000) (hl : P.im.px.length ≤ 1000000000) (hsl : P.stops.length ≤ 1000000000) : Calls Tryz.prog 19 #[O5 P q] w (K5 w (fun _ : Unit => .bool B) fun _ _ => True) := by
 rw [valid_has] at hB
 refine K0.enter Tryz.func19 rfl ?_
 refine ZR ?_
 cases h1 : P.T.ok
 ·rw [h1, Bool.false_and] at hB
  refine ZC (fun w1 hw h => rvalidA_v h1 (hp.tr.below hw) Zo) fun u => ?_
  refine ZI true ?_
  exact ZX (.bool false) (by rw [← hB])
 rw [h1, Bool.true_and] at hB
 refine ZC (fun w1 hw h => rvalidA_v h1 (hp.tr.below hw) Zo) fun u => ?_
 cases h2 : hasB P
 ·rw [h2, Bool.false_and] at hB
  refine ZC (fun w1 hw h => has_v h2 (hp.below hw) Zo hl hsl) fun u2 => ?_
  refine ZI true ?_
  exact ZX (.bool false) (by rw [← hB])
 rw [h2, Bool.true_and] at hB
 refine ZC (fun w1 hw h => has_v h2 (hp.below hw) Zo hl hsl) fun u2 => ?_
 refine K0.cond false Zk ?_
 refine ZS 4 ?_
 by_cases k1 : P.kind = 1
 case pos =>
  rw [decide_eq_true k1, Bool.true_or] at hB
  refine ZT 15 (.bool (P.kind == 1)) (.bool true) (by rw [beq_iff_eq.2 k1]) ?_
  exact ZX (.bool true) (by rw [← hB])
 rw [decide_eq_false k1, Bool.false_or] at hB
 refine ZT 15 (.bool (P.kind == 1)) (.bool false) (by rw [beq_eq_false_iff_ne.2 k1]) ?_
 refine ZC (fun w1 hw h => rdetA_m (hp.tr.below hw) Zo) fun d => ?_
 refine ZC (fun w1 hw h => rqfromInt_m 0 w1 Zd Zd) fun z => ?_
 refine ZC (fun w1 hw h => rqcmp_m h.1.2.q h.2.q Zo) fun v => ?_
 exact ZX (.bool (cmpQ P.T.det ((0 : Int) : Rat) != 0)) (by rw [cmp_ne0, ← hB])
theorem Qm (ht : IsA t T K w) (hK : 2 ≤ K ∧ K ≤ 1000) : Calls Tryz.prog 64 #[t.val] w (K5 w (fun y : Nat => .slice (some ⟨y, 0, none⟩) 6 6) fun y u => L6 u (some ⟨y, 0, none⟩) 6 (Lr T)) := by
 refine K0.enter Tryz.func64 rfl ?_
 refine ZR ?_
 refine ZC (fun w1 hw h => rnormA_m (ht.below hw) Zo) fun n => ?_
 refine ZC (fun w1 hw h => rformatQ_m (h.2.a.q) hK) fun u0 => ?_
 refine ZC (fun w1 hw h => rformatQ_m (h.1.2.b.q) hK) fun u1 => ?_
 refine ZC (fun w1 hw h => rformatQ_m (h.1.1.2.c.q) hK) fun u2 => ?_
 refine ZC (fun w1 hw h => rformatQ_m (h.1.1.1.2.d.q) hK) fun u3 => ?_
 refine ZC (fun w1 hw h => rformatQ_m (h.1.1.1.1.2.e.q) hK) fun u4 => ?_
 refine ZD 18 (fun w1 hw h => rformatQ_m (h.1.1.1.1.1.2.f.q) hK) fun u5 => ?_
 refine K0.make (Li (64) 6 #[(0, K4 (Kk T.a)), (1, K4 (Kk T.b)), (2, K4 (Kk T.c)), (3, K4 (Kk T.d)), (4, K4 (Kk T.e)), (5, K4 (Kk T.f))]) (Ki 6) (L8 9 #[K4 (Kk T.a), K4 (Kk T.b), K4 (Kk T.c), K4 (Kk T.d), K4 (Kk T.e), K4 (Kk T.f)]) Zk (fun w1 hw h => Kb Zk) (fun gb => ?_)
 refine ZR ?_
 refine ZV (.slice (some ⟨gb, 0, none⟩) 6 6) (fun w1 hw h => ⟨gb, rfl, hw, fun w'' k1 k2 => Lv (L := Lr T) (h w'' k1 k2).2 rfl⟩)
theorem pointFields_m (h1 : -9223372036854775808 ≤ x ∧ x ≤ 9223372036854775807) (h2 : -9223372036854775808 ≤ y ∧ y ≤ 9223372036854775807) : Calls Tryz.prog 62 #[pt x y] w (K5 w (fun y : Nat => .slice (some ⟨y, 0, none⟩) 2 2) fun z u => L6 u (some ⟨z, 0, none⟩) 2 [K7 x, K7 y]) := by
 refine K0.enter Tryz.func62 rfl ?_
 refine ZR ?_
 refine ZC (fun w1 hw h => Pb (n := x) h1.1 h1.2) fun u0 => ?_
 refine ZD 6 (fun w1 hw h => Pb (n := y) h2.1 h2.2) fun u1 => ?_
 refine K0.make (Li (64) 2 #[(0, K4 (K7 x)), (1, K4 (K7 y))]) (Ki 2) (L8 9 #[K4 (K7 x), K4 (K7 y)]) Zk (fun w1 hw h => Kb Zk) (fun gb => ?_)
 refine ZR ?_
 refine ZV (.slice (some ⟨gb, 0, none⟩) 2 2) (fun w1 hw h => ⟨gb, rfl, hw, fun w'' k1 k2 => Lv (L := [K7 x, K7 y]) (h w'' k1 k2).2 rfl⟩)
theorem pixelField_m (hp : Qg w A n 4 Ns px) (hn : n ≤ 20000) : Calls Tryz.prog 135 #[.slice A n c] w (K5 w (fun _ : Unit => K4 (hexW px)) fun _ _ => True) := by
 have hpn := hp.1
 refine K0.enter Tryz.func135 rfl ?_
 refine ZR ?_
 refine K0.make (Li 137 0 #[]) (Ki 0) (fun g u => K6 u w.heap.size 5 1 (some ⟨g, 0, none⟩) 0 0 []) Zk (fun w1 hw h => make_nil Zk hw.size) (fun y0 => ?_)
 refine ZR ?_
 refine K0.loop (ι := {q : Nat × (Option Addr × Nat) // q.1 ≤ n}) 37 (fun q => ⟨[(0, .v (.slice A n c)), (3, .v (.slice q.1.2.1 (4 * q.1.1) q.1.2.2)), (4, .v (.int .i64 q.1.1))], []⟩) (fun q u => K6 u w.heap.size 5 1 q.1.2.1 (4 * q.1.1) q.1.2.2 (bv ((px.take q.1.1).flatMap coB))) (fun q => n - q.1.1) (⟨(0, (some ⟨y0, 0, none⟩, 0)), Nat.zero_le _⟩) Zk (fun _ => by kernel_rfl) ⟨Zk, Zk, Zk⟩ (fun u h => h.2) ?_
 rintro ⟨⟨k, y⟩, hk⟩ gg
 have hk : k ≤ n := hk
 obtain ⟨p, hp'⟩ : ∃ p, p = (px.take k).flatMap coB := ⟨_, rfl⟩
 by_cases hlt : k < n
 case neg =>
  obtain rfl : k = n := by omega
  have hfull : px.take k = px := List.take_of_length_le Zo
  refine ZR ?_
  refine ZJ (decide ((k : Int) < (k : Int))) false Zs ?_
  refine K0.leave Zk ?_
  refine ZR ?_
  refine ZC (fun w1 hw h => rencode_m (A := y.1) (n := 4 * k) (c := y.2) (bs := px.flatMap coB) (by have hl : 4 * k = (px.flatMap coB).length := (by rw [flat_len4, hpn]); have h2 : K6 w1 w.heap.size 5 1 y.1 (4 * k) y.2 (bv (px.flatMap coB)) := (by rw [← hfull]; exact h); rw [hl] at h2 ⊢; exact K6.bytes h2) Zo) fun u => ?_
  exact ZW (K4 (hexW px))
 obtain ⟨x, hx⟩ : ∃ x, px[k]? = some x := ⟨_, List.getElem?_eq_getElem Zo⟩
 obtain ⟨ad, hA, hc⟩ := hp.2 k x hx
 have hstep : (px.take (k + 1)).flatMap coB = p ++ coB x := by rw [List.take_add_one, hx, hp']; simp
 refine ZR ?_
 refine K0.condr (decide ((k : Int) < (n : Int))) true Zk Zp ?_
 refine ZS 3 ?_
 refine K0.askAt 3 (Kx 27 (.slice A n c) k) (.pointer (some (ad.add (k * 4)))) Zk (fun w1 hw h => px_idx hA hlt) ?_
 refine ZS 4 ?_
 refine K0.askAt 4 (fldS 127 (ad.add (k * 4)) 0) (.pointer (some ((ad.add (k * 4)).add 0))) Zk (fun w1 hw h => Pu (d := 0) Zk) ?_
 refine ZS 5 ?_
 refine K0.askAt 5 (Ln 5 ((ad.add (k * 4)).add 0)) (.int .u8 (x.1.toNat : Int)) Zk (fun w1 hw h => K9 Zk (Mw hw (hc 0 _ rfl))) ?_
 refine ZS 8 ?_
 refine K0.askAt 8 (Kx 27 (.slice A n c) k) (.pointer (some (ad.add (k * 4)))) Zk (fun w1 hw h => px_idx hA hlt) ?_
 refine ZS 9 ?_
 refine K0.askAt 9 (fldS 127 (ad.add (k * 4)) 1) (.pointer (some ((ad.add (k * 4)).add 1))) Zk (fun w1 hw h => Pu (d := 1) Zk) ?_
 refine ZS 10 ?_
 refine K0.askAt 10 (Ln 5 ((ad.add (k * 4)).add 1)) (.int .u8 (x.2.1.toNat : Int)) Zk (fun w1 hw h => K9 Zk (Mw hw (hc 1 _ rfl))) ?_
 refine ZS 13 ?_
 refine K0.askAt 13 (Kx 27 (.slice A n c) k) (.pointer (some (ad.add (k * 4)))) Zk (fun w1 hw h => px_idx hA hlt) ?_
 refine ZS 14 ?_
 refine K0.askAt 14 (fldS 127 (ad.add (k * 4)) 2) (.pointer (some ((ad.add (k * 4)).add 2))) Zk (fun w1 hw h => Pu (d := 2) Zk) ?_
 refine ZS 15 ?_
 refine K0.askAt 15 (Ln 5 ((ad.add (k * 4)).add 2)) (.int .u8 (x.2.2.1.toNat : Int)) Zk (fun w1 hw h => K9 Zk (Mw hw (hc 2 _ rfl))) ?_
 refine ZS 18 ?_
 refine K0.askAt 18 (Kx 27 (.slice A n c) k) (.pointer (some (ad.add (k * 4)))) Zk (fun w1 hw h => px_idx hA hlt) ?_
 refine ZS 19 ?_
 refine K0.askAt 19 (fldS 127 (ad.add (k * 4)) 3) (.pointer (some ((ad.add (k * 4)).add 3))) Zk (fun w1 hw h => Pu (d := 3) Zk) ?_
 refine ZS 20 ?_
 refine K0.askAt 20 (Ln 5 ((ad.add (k * 4)).add 3)) (.int .u8 (x.2.2.2.toNat : Int)) Zk (fun w1 hw h => K9 Zk (Mw hw (hc 3 _ rfl))) ?_
 refine ZS 21 ?_
 refine K0.make (Li (137) 4 #[(0, .int .u8 (x.1.toNat : Int)), (1, .int .u8 (x.2.1.toNat : Int)), (2, .int .u8 (x.2.2.1.toNat : Int)), (3, .int .u8 (x.2.2.2.toNat : Int))]) (Ki 4) (L8 5 (Ns x).toArray) Zk (fun w1 hw h => Kb Zk) (fun gb => ?_)
 refine ZS 22 ?_
 refine K0.mutAny (L := bl y.1) (val := fun (z : Option Addr × Nat) => .slice z.1 (4 * k + 4) z.2) (Φ' := fun (z : Option Addr × Nat) v => K6 v w.heap.size 5 1 z.1 (4 * k + 4) z.2 (bv (p ++ coB x))) (G := fun (z : Option Addr × Nat) v => K6 v w.heap.size 5 1 z.1 (4 * k + 4) z.2 (bv (p ++ coB x))) (M2 137 137 (.slice y.1 (4 * k) y.2) (Ki 4 gb)) (fun w1 hw h => app_b4 (show K6 w1 w.heap.size 5 1 y.1 (4 * k) y.2 (bv p) from (by rw [hp']; exact h.1)) hw.size h.2 Zo) (fun w1 h => fun b hb => ⟨((show K6 w1 w.heap.size 5 1 y.1 (4 * k) y.2 (bv p) from (by rw [hp']; exact h.1)).lt b hb).1, ((show K6 w1 w.heap.size 5 1 y.1 (4 * k) y.2 (bv p) from (by rw [hp']; exact h.1)).blk b hb).2⟩) (fun z wa wb e1 e2 h hG => hG) Zk Zk (fun z => ?_)
 refine ZR ?_
 refine K0.slot 4 (.int .i64 (IntKind.i64.wrap ((k : Int) + 1))) (.int .i64 ((k + 1 : Nat) : Int)) Zk (by rw [Kf hlt Zo]) ?_
 refine K0.next (⟨(k + 1, z), by show k + 1 ≤ n; omega⟩) Zk (by show n - (k + 1) < n - k; omega) ⟨Zk, Zk, Zk⟩ (fun u h => (by show K6 u w.heap.size 5 1 z.1 (4 * (k + 1)) z.2 (bv ((px.take (k + 1)).flatMap coB)); rw [hstep, show 4 * (k + 1) = 4 * k + 4 by omega]; exact h))
theorem imageFields_m {y : Option Addr × Nat} (hp : Qg w y.1 m.px.length 4 Ns m.px) (hn : m.px.length ≤ 20000) (h1 : -9223372036854775808 ≤ m.w ∧ m.w ≤ 9223372036854775807) (h2 : -9223372036854775808 ≤ m.h ∧ m.h ≤ 9223372036854775807) : Calls Tryz.prog 68 #[imV m y] w (K5 w (fun y : Nat => .slice (some ⟨y, 0, none⟩) 3 3) fun y u => L6 u (some ⟨y, 0, none⟩) 3 (imW m)) := by
 refine K0.enter Tryz.func68 rfl ?_
 refine ZR ?_
 refine ZC (fun w1 hw h => Pb (n := m.w) h1.1 h1.2) fun u0 => ?_
 refine ZC (fun w1 hw h => Pb (n := m.h) h2.1 h2.2) fun u1 => ?_
 refine ZD 9 (fun w1 hw h => pixelField_m (c := y.2) (hp.below hw) hn) fun u2 => ?_
 refine K0.make (Li (64) 3 #[(0, K4 (K7 m.w)), (1, K4 (K7 m.h)), (2, K4 (hexW m.px))]) (Ki 3) (L8 9 #[K4 (K7 m.w), K4 (K7 m.h), K4 (hexW m.px)]) Zk (fun w1 hw h => Kb Zk) (fun gb => ?_)
 refine ZR ?_
 refine ZV (.slice (some ⟨gb, 0, none⟩) 3 3) (fun w1 hw h => ⟨gb, rfl, hw, fun w'' k1 k2 => Lv (L := imW m) (h w'' k1 k2).2 rfl⟩)
theorem stopFields_m (hp : Qg w A n 5 P3 l) (hn : n ≤ 1000) (hr : ∀ x ∈ l, 0 ≤ x.1 ∧ x.1 ≤ 65536) : Calls Tryz.prog 65 #[.slice A n c] w (K5 w (fun y : Option Addr × Nat => .slice y.1 (2 * n) y.2) fun y u => L6 u y.1 (2 * n) (stW l)) := by
 have hpn := hp.1
 refine K0.enter Tryz.func65 rfl ?_
 refine ZR ?_
 refine K0.make (Li 64 0 #[]) (Ki 0) (fun g u => K6 u w.heap.size 9 1 (some ⟨g, 0, none⟩) 0 0 []) Zk (fun w1 hw h => make_nil Zk hw.size) (fun y0 => ?_)
 refine ZR ?_
 refine K0.loop (ι := {q : Nat × (Option Addr × Nat) // q.1 ≤ n}) 28 (fun q => ⟨[(0, .v (.slice A n c)), (3, .v (.slice q.1.2.1 (2 * q.1.1) q.1.2.2)), (4, .v (.int .i64 q.1.1))], []⟩) (fun q u => K6 u w.heap.size 9 1 q.1.2.1 (2 * q.1.1) q.1.2.2 (sv (stW (l.take q.1.1)))) (fun q => n - q.1.1) (⟨(0, (some ⟨y0, 0, none⟩, 0)), Nat.zero_le _⟩) Zk (fun _ => by kernel_rfl) ⟨Zk, Zk, Zk⟩ (fun u h => h.2) ?_
 rintro ⟨⟨k, y⟩, hk⟩ gg
 have hk : k ≤ n := hk
 obtain ⟨p, hp'⟩ : ∃ p, p = stW (l.take k) := ⟨_, rfl⟩
 by_cases hlt : k < n
 case neg =>
  obtain rfl : k = n := by omega
  have hfull : l.take k = l := List.take_of_length_le Zo
  refine ZR ?_
  refine ZJ (decide ((k : Int) < (k : Int))) false Zs ?_
  refine K0.leave Zk ?_
  refine ZR ?_
  refine ZV (.slice y.1 (2 * k) y.2) (fun w1 hw h => ⟨y, rfl, hw, fun w'' k1 k2 => by have t := (show K6 w'' w.heap.size 9 1 y.1 (2 * k) y.2 (sv (stW (l.take k))) from h w'' k1 k2).strs; rw [hfull] at t; exact t⟩)
 obtain ⟨x, hx⟩ : ∃ x, l[k]? = some x := ⟨_, List.getElem?_eq_getElem Zo⟩
 obtain ⟨ad, hA, hc⟩ := hp.2 k x hx
 have hxr := hr x (List.mem_of_getElem? hx)
 have hstep : stW (l.take (k + 1)) = p ++ [K7 x.1, Mp x.2] := by rw [stW_snoc hx, hp']
 refine ZR ?_
 refine K0.condr (decide ((k : Int) < (n : Int))) true Zk Zp ?_
 refine ZS 3 ?_
 refine K0.askAt 3 (Kx 26 (.slice A n c) k) (.pointer (some (ad.add (k * 5)))) Zk (fun w1 hw h => st_idx hA hlt) ?_
 refine ZS 4 ?_
 refine K0.askAt 4 (fldS 104 (ad.add (k * 5)) 0) (.pointer (some ((ad.add (k * 5)).add 0))) Zk (fun w1 hw h => Pu (d := 0) Zk) ?_
 refine ZS 5 ?_
 refine K0.askAt 5 (Ln 3 ((ad.add (k * 5)).add 0)) (.int .i64 x.1) Zk (fun w1 hw h => K9 Zk (Mw hw (hc 0 _ rfl))) ?_
 refine ZS 9 ?_
 refine K0.askAt 9 (Kx 26 (.slice A n c) k) (.pointer (some (ad.add (k * 5)))) Zk (fun w1 hw h => st_idx hA hlt) ?_
 refine ZS 10 ?_
 refine K0.askAt 10 (fldS 104 (ad.add (k * 5)) 1) (.pointer (some ((ad.add (k * 5)).add 1))) Zk (fun w1 hw h => Pu (d := 1) Zk) ?_
 refine ZS 11 ?_
 refine K0.askAt 11 (Ln 23 ((ad.add (k * 5)).add 1)) (P8 x.2) Zk (fun w1 hw h => run_ldA (vs := Ns x.2) Zk Zk (fun j v hj => by rw [addadd]; have q := Mw hw (hc (1 + j) v (by rw [show P3 x = .int .i64 x.1 :: Ns x.2 from rfl, Nat.add_comm, List.getElem?_cons_succ]; exact hj)); exact q)) ?_
 refine ZS 12 ?_
 refine ZD 12 (fun w1 hw h => Pb (n := x.1) Zo Zo) fun v1 => ?_
 refine ZD 13 (fun w1 hw h => rfcolor_m (k := x.2)) fun v2 => ?_
 refine K0.make (Li (64) 2 #[(0, K4 (K7 x.1)), (1, K4 (Mp x.2))]) (Ki 2) (L8 9 #[K4 (K7 x.1), K4 (Mp x.2)]) Zk (fun w1 hw h => Kb Zk) (fun gb => ?_)
 refine ZS 14 ?_
 refine K0.mutAny (L := bl y.1) (val := fun (z : Option Addr × Nat) => .slice z.1 (2 * k + 2) z.2) (Φ' := fun (z : Option Addr × Nat) v => K6 v w.heap.size 9 1 z.1 (2 * k + 2) z.2 (sv (p ++ [K7 x.1, Mp x.2]))) (G := fun (z : Option Addr × Nat) v => K6 v w.heap.size 9 1 z.1 (2 * k + 2) z.2 (sv (p ++ [K7 x.1, Mp x.2]))) (M2 64 64 (.slice y.1 (2 * k) y.2) (Ki 2 gb)) (fun w1 hw h => app_row2 (show K6 w1 w.heap.size 9 1 y.1 (2 * k) y.2 (sv p) from (by rw [hp']; exact h.1.1.1)) hw.size h.2 Zo) (fun w1 h => fun b hb => ⟨((show K6 w1 w.heap.size 9 1 y.1 (2 * k) y.2 (sv p) from (by rw [hp']; exact h.1.1.1)).lt b hb).1, ((show K6 w1 w.heap.size 9 1 y.1 (2 * k) y.2 (sv p) from (by rw [hp']; exact h.1.1.1)).blk b hb).2⟩) (fun z wa wb e1 e2 h hG => hG) Zk Zk (fun z => ?_)
 refine ZR ?_
 refine K0.slot 4 (.int .i64 (IntKind.i64.wrap ((k : Int) + 1))) (.int .i64 ((k + 1 : Nat) : Int)) Zk (by rw [Kf hlt Zo]) ?_
 refine K0.next (⟨(k + 1, z), by show k + 1 ≤ n; omega⟩) Zk (by show n - (k + 1) < n - k; omega) ⟨Zk, Zk, Zk⟩ (fun u h => (by show K6 u w.heap.size 9 1 z.1 (2 * (k + 1)) z.2 (sv (stW (l.take (k + 1)))); rw [hstep, show 2 * (k + 1) = 2 * k + 2 by omega]; exact h))
end
end
section
open Go.RowKit
--ATNAMES
section
variable {w : World} {P : Pn} {q : PM} {K : Nat} {l : List UInt8}
theorem spread_at {u : World} {y : Nat} {z : Int} (h : L6 u (some ⟨y, 0, none⟩) 4 Kq) (h1 : 0 ≤ z ∧ z < 0 + 4) : (Kx 64 (.slice (some ⟨y, 0, none⟩) 4 4) z).run Tryz.prog u = .ok (.value (.pointer (some ((⟨y, 0, none⟩ : Addr).add z.toNat)))) u ∧ u.cell? ((⟨y, 0, none⟩ : Addr).add z.toNat) = some (K4 (Me Kq 0 z)) := by
 obtain ⟨k, rfl⟩ : ∃ k : Nat, z = (k : Int) := ⟨z.toNat, by omega⟩
 obtain ⟨s, hs⟩ : ∃ s, Kq[k]? = some s := ⟨_, List.getElem?_eq_getElem (show k < Kq.length by show k < 4; omega)⟩
 refine ⟨Kh (k := k) (elem := 9) Zk Zk Zo, ?_⟩
 obtain ⟨ad, q1, q2⟩ := h.2 k s hs
 cases q1
 have e : Me Kq 0 (k : Int) = s := by unfold Me; rw [show ((k : Int) - 0).toNat = k by omega, hs]; rfl
 rw [e]; exact q2
theorem look_at {u : World} {y : Nat} {z : Int} (h : L6 u (some ⟨y, 0, none⟩) 3 ([] :: Mf)) (h1 : z = 1 ∨ z = 2) : (Kx 64 (.slice (some ⟨y, 0, none⟩) 3 3) z).run Tryz.prog u = .ok (.value (.pointer (some ((⟨y, 0, none⟩ : Addr).add z.toNat)))) u ∧ u.cell? ((⟨y, 0, none⟩ : Addr).add z.toNat) = some (K4 (Me Mf 1 z)) := by
 rcases h1 with rfl | rfl
 ·refine ⟨Kh (k := 1) (elem := 9) Zk Zk Zd, ?_⟩
  obtain ⟨ad, q1, q2⟩ := h.2 1 _ rfl
  cases q1
  exact q2
 ·refine ⟨Kh (k := 2) (elem := 9) Zk Zk Zd, ?_⟩
  obtain ⟨ad, q1, q2⟩ := h.2 2 _ rfl
  cases q1
  exact q2
theorem paintFields_m (hp : PRd P q K w) (hv : Lk P = true) (hK : 2 ≤ K ∧ K ≤ 1000) (hl : P.im.px.length ≤ 20000) : Calls Tryz.prog 21 #[O5 P q] w (K5 w (fun y : Option Addr × Nat => .slice y.1 (Qe P).length y.2) fun y u => L6 u y.1 (Qe P).length (Qe P)) := by
 unfold Lk at hv
 rw [Bool.and_eq_true, Bool.and_eq_true] at hv
 obtain ⟨hok, hz, hk⟩ := hv
 unfold kindOK at hk
 refine K0.enter Tryz.func21 rfl ?_
 refine ZR ?_
 refine K0.make (Li 64 0 #[]) (Ki 0) (fun g u => K6 u w.heap.size 9 1 (some ⟨g, 0, none⟩) 0 0 []) Zk (fun w1 hw h => make_nil Zk hw.size) (fun y0 => ?_)
 refine ZR ?_
 by_cases k1 : P.kind = 1
 case pos =>
  have e : Qe P = [Nj, Mp P.co] := by unfold Qe; rw [if_pos k1]
  rw [e]
  refine ZJ ((P.kind == 1)) true (beq_iff_eq.2 k1) ?_
  refine ZD 3 (fun w1 hw h => rfcolor_m (k := P.co)) fun u => ?_
  refine K0.make (Li (64) 2 #[(0, K4 Nj), (1, K4 (Mp P.co))]) (Ki 2) (L8 9 #[K4 Nj, K4 (Mp P.co)]) Zk (fun w1 hw h => Kb Zk) (fun gb => ?_)
  refine ZR ?_
  refine ZV (.slice (some ⟨gb, 0, none⟩) 2 2) (fun w1 hw h => ⟨(some ⟨gb, 0, none⟩, 2), rfl, hw, fun w'' k1 k2 => Lv (L := [Nj, Mp P.co]) (h w'' k1 k2).2 rfl⟩)
 refine ZJ ((P.kind == 1)) false (beq_eq_false_iff_ne.2 k1) ?_
 obtain ⟨x1, hx1⟩ : ∃ x, x = Me Kq 0 P.spread := ⟨_, rfl⟩
 by_cases k2 : P.kind = 2
 case pos =>
  rw [if_neg k1, if_pos k2, Bool.and_eq_true, Bool.and_eq_true, Bool.and_eq_true] at hk
  obtain ⟨hp0, hp1, hst0, _⟩ := hk
  have hr0 := N4 hp0
  have hr1 := N4 hp1
  have hst2 := hst0
  rw [Bool.and_eq_true] at hst2
  have hs2 : 0 ≤ P.spread ∧ P.spread < 0 + 4 := by have := of_decide_eq_true (show decide (1 ≤ P.spread ∧ P.spread ≤ 3) = true from hst2.2); omega
  have hst1 := hst2.1
  unfold Mi at hst1
  rw [Bool.and_eq_true, decide_eq_true_iff] at hst1
  have hst := hst1.2
  have hst16 := hst1.1.2
  have hsr := stOK_mem (Int.le_refl 0) hst
  have hsm := stW_len P.stops
  refine K0.condr ((P.kind == 2)) true Zk (beq_iff_eq.2 k2) ?_
  refine ZS 1 ?_
  refine K0.make (Li (64) 1 #[(0, K4 Kp)]) (Ki 1) (L8 9 #[K4 Kp]) Zk (fun w1 hw h => Kb Zk) (fun ga => ?_)
  refine ZS 2 ?_
  refine K0.mutOp (L := bl ((some ⟨y0, 0, none⟩, 0) : Option Addr × Nat).1) (val := fun (z : Option Addr × Nat) => .slice z.1 (0 + 1) z.2) (Φ' := fun (z : Option Addr × Nat) v => K6 v w.heap.size 9 1 z.1 (0 + 1) z.2 (sv (([] : WS) ++ [Kp]))) (G := fun (z : Option Addr × Nat) v => K6 v w.heap.size 9 1 z.1 (0 + 1) z.2 (sv (([] : WS) ++ [Kp]))) (M2 64 64 (.slice ((some ⟨y0, 0, none⟩, 0) : Option Addr × Nat).1 (0) ((some ⟨y0, 0, none⟩, 0) : Option Addr × Nat).2) (Ki 1 ga)) (fun w1 hw h => Nd (p := ([] : WS)) (l := [Kp]) (show K6 w1 w.heap.size 9 1 ((some ⟨y0, 0, none⟩, 0) : Option Addr × Nat).1 (0) ((some ⟨y0, 0, none⟩, 0) : Option Addr × Nat).2 (sv (([] : WS))) from h.1.2) hw.size (Lv (L := [Kp]) h.2 rfl) Zd) (fun w1 h => fun b hb => ⟨((show K6 w1 w.heap.size 9 1 ((some ⟨y0, 0, none⟩, 0) : Option Addr × Nat).1 (0) ((some ⟨y0, 0, none⟩, 0) : Option Addr × Nat).2 (sv (([] : WS))) from h.1.2).lt b hb).1, ((show K6 w1 w.heap.size 9 1 ((some ⟨y0, 0, none⟩, 0) : Option Addr × Nat).1 (0) ((some ⟨y0, 0, none⟩, 0) : Option Addr × Nat).2 (sv (([] : WS))) from h.1.2).blk b hb).2⟩) (fun z wa wb e1 e2 h hG => hG) Zk Zk (fun y1 => ?_)
  refine ZR ?_
  refine ZD 4 (fun w1 hw h => pointFields_m (x := P.p0x) (y := P.p0y) Zo Zo) fun p => ?_
  refine K0.mutOp (L := bl y1.1) (val := fun (z : Option Addr × Nat) => .slice z.1 (0 + 1 + 2) z.2) (Φ' := fun (z : Option Addr × Nat) v => K6 v w.heap.size 9 1 z.1 (0 + 1 + 2) z.2 (sv (([] : WS) ++ [Kp] ++ [K7 P.p0x, K7 P.p0y]))) (G := fun (z : Option Addr × Nat) v => K6 v w.heap.size 9 1 z.1 (0 + 1 + 2) z.2 (sv (([] : WS) ++ [Kp] ++ [K7 P.p0x, K7 P.p0y]))) (M2 64 64 (.slice y1.1 (0 + 1) y1.2) (.slice (some ⟨p, 0, none⟩) 2 2)) (fun w1 hw h => Nd (p := ([] : WS) ++ [Kp]) (l := [K7 P.p0x, K7 P.p0y]) (show K6 w1 w.heap.size 9 1 y1.1 (0 + 1) y1.2 (sv (([] : WS) ++ [Kp])) from h.1) hw.size h.2 Zd) (fun w1 h => fun b hb => ⟨((show K6 w1 w.heap.size 9 1 y1.1 (0 + 1) y1.2 (sv (([] : WS) ++ [Kp])) from h.1).lt b hb).1, ((show K6 w1 w.heap.size 9 1 y1.1 (0 + 1) y1.2 (sv (([] : WS) ++ [Kp])) from h.1).blk b hb).2⟩) (fun z wa wb e1 e2 h hG => hG) Zk Zk (fun y2 => ?_)
  refine ZR ?_
  refine ZD 4 (fun w1 hw h => pointFields_m (x := P.p1x) (y := P.p1y) Zo Zo) fun p => ?_
  refine K0.mutOp (L := bl y2.1) (val := fun (z : Option Addr × Nat) => .slice z.1 (0 + 1 + 2 + 2) z.2) (Φ' := fun (z : Option Addr × Nat) v => K6 v w.heap.size 9 1 z.1 (0 + 1 + 2 + 2) z.2 (sv (([] : WS) ++ [Kp] ++ [K7 P.p0x, K7 P.p0y] ++ [K7 P.p1x, K7 P.p1y]))) (G := fun (z : Option Addr × Nat) v => K6 v w.heap.size 9 1 z.1 (0 + 1 + 2 + 2) z.2 (sv (([] : WS) ++ [Kp] ++ [K7 P.p0x, K7 P.p0y] ++ [K7 P.p1x, K7 P.p1y]))) (M2 64 64 (.slice y2.1 (0 + 1 + 2) y2.2) (.slice (some ⟨p, 0, none⟩) 2 2)) (fun w1 hw h => Nd (p := ([] : WS) ++ [Kp] ++ [K7 P.p0x, K7 P.p0y]) (l := [K7 P.p1x, K7 P.p1y]) (show K6 w1 w.heap.size 9 1 y2.1 (0 + 1 + 2) y2.2 (sv (([] : WS) ++ [Kp] ++ [K7 P.p0x, K7 P.p0y])) from h.1) hw.size h.2 Zd) (fun w1 h => fun b hb => ⟨((show K6 w1 w.heap.size 9 1 y2.1 (0 + 1 + 2) y2.2 (sv (([] : WS) ++ [Kp] ++ [K7 P.p0x, K7 P.p0y])) from h.1).lt b hb).1, ((show K6 w1 w.heap.size 9 1 y2.1 (0 + 1 + 2) y2.2 (sv (([] : WS) ++ [Kp] ++ [K7 P.p0x, K7 P.p0y])) from h.1).blk b hb).2⟩) (fun z wa wb e1 e2 h hG => hG) Zk Zk (fun y3 => ?_)
  refine ZR ?_
  refine ZD 4 (fun w1 hw h => spreads_m) fun sp => ?_
  refine K0.askAt 4 (Kx 64 (.slice (some ⟨sp, 0, none⟩) 4 4) P.spread) (.pointer (some ((⟨sp, 0, none⟩ : Addr).add P.spread.toNat))) Zk (fun w1 hw h => (spread_at h.2 hs2).1) ?_
  refine ZS 5 ?_
  refine K0.askAt 5 (Ln 9 ((⟨sp, 0, none⟩ : Addr).add P.spread.toNat)) (K4 x1) Zk (fun w1 hw h => K9 Zk (by rw [hx1]; exact (spread_at h.2 hs2).2)) ?_
  refine ZS 6 ?_
  refine K0.make (Li (64) 1 #[(0, K4 x1)]) (Ki 1) (L8 9 #[K4 x1]) Zk (fun w1 hw h => Kb Zk) (fun gs => ?_)
  refine ZS 7 ?_
  refine K0.mutAny (L := bl y3.1) (val := fun (z : Option Addr × Nat) => .slice z.1 (0 + 1 + 2 + 2 + 1) z.2) (Φ' := fun (z : Option Addr × Nat) v => K6 v w.heap.size 9 1 z.1 (0 + 1 + 2 + 2 + 1) z.2 (sv (([] : WS) ++ [Kp] ++ [K7 P.p0x, K7 P.p0y] ++ [K7 P.p1x, K7 P.p1y] ++ [x1]))) (G := fun (z : Option Addr × Nat) v => K6 v w.heap.size 9 1 z.1 (0 + 1 + 2 + 2 + 1) z.2 (sv (([] : WS) ++ [Kp] ++ [K7 P.p0x, K7 P.p0y] ++ [K7 P.p1x, K7 P.p1y] ++ [x1]))) (M2 64 64 (.slice y3.1 (0 + 1 + 2 + 2) y3.2) (Ki 1 gs)) (fun w1 hw h => Nd (p := ([] : WS) ++ [Kp] ++ [K7 P.p0x, K7 P.p0y] ++ [K7 P.p1x, K7 P.p1y]) (l := [x1]) (show K6 w1 w.heap.size 9 1 y3.1 (0 + 1 + 2 + 2) y3.2 (sv (([] : WS) ++ [Kp] ++ [K7 P.p0x, K7 P.p0y] ++ [K7 P.p1x, K7 P.p1y])) from h.1.1) hw.size (Lv (L := [x1]) h.2 rfl) Zd) (fun w1 h => fun b hb => ⟨((show K6 w1 w.heap.size 9 1 y3.1 (0 + 1 + 2 + 2) y3.2 (sv (([] : WS) ++ [Kp] ++ [K7 P.p0x, K7 P.p0y] ++ [K7 P.p1x, K7 P.p1y])) from h.1.1).lt b hb).1, ((show K6 w1 w.heap.size 9 1 y3.1 (0 + 1 + 2 + 2) y3.2 (sv (([] : WS) ++ [Kp] ++ [K7 P.p0x, K7 P.p0y] ++ [K7 P.p1x, K7 P.p1y])) from h.1.1).blk b hb).2⟩) (fun z wa wb e1 e2 h hG => hG) Zk Zk (fun y4 => ?_)
  refine ZR ?_
  refine ZD 4 (fun w1 hw h => Qm (hp.tr.below hw) hK) fun t => ?_
  refine K0.mutOp (L := bl y4.1) (val := fun (z : Option Addr × Nat) => .slice z.1 (0 + 1 + 2 + 2 + 1 + 6) z.2) (Φ' := fun (z : Option Addr × Nat) v => K6 v w.heap.size 9 1 z.1 (0 + 1 + 2 + 2 + 1 + 6) z.2 (sv (([] : WS) ++ [Kp] ++ [K7 P.p0x, K7 P.p0y] ++ [K7 P.p1x, K7 P.p1y] ++ [x1] ++ Lr P.T))) (G := fun (z : Option Addr × Nat) v => K6 v w.heap.size 9 1 z.1 (0 + 1 + 2 + 2 + 1 + 6) z.2 (sv (([] : WS) ++ [Kp] ++ [K7 P.p0x, K7 P.p0y] ++ [K7 P.p1x, K7 P.p1y] ++ [x1] ++ Lr P.T))) (M2 64 64 (.slice y4.1 (0 + 1 + 2 + 2 + 1) y4.2) (.slice (some ⟨t, 0, none⟩) 6 6)) (fun w1 hw h => Nd (p := ([] : WS) ++ [Kp] ++ [K7 P.p0x, K7 P.p0y] ++ [K7 P.p1x, K7 P.p1y] ++ [x1]) (l := Lr P.T) (show K6 w1 w.heap.size 9 1 y4.1 (0 + 1 + 2 + 2 + 1) y4.2 (sv (([] : WS) ++ [Kp] ++ [K7 P.p0x, K7 P.p0y] ++ [K7 P.p1x, K7 P.p1y] ++ [x1])) from h.1) hw.size h.2 Zd) (fun w1 h => fun b hb => ⟨((show K6 w1 w.heap.size 9 1 y4.1 (0 + 1 + 2 + 2 + 1) y4.2 (sv (([] : WS) ++ [Kp] ++ [K7 P.p0x, K7 P.p0y] ++ [K7 P.p1x, K7 P.p1y] ++ [x1])) from h.1).lt b hb).1, ((show K6 w1 w.heap.size 9 1 y4.1 (0 + 1 + 2 + 2 + 1) y4.2 (sv (([] : WS) ++ [Kp] ++ [K7 P.p0x, K7 P.p0y] ++ [K7 P.p1x, K7 P.p1y] ++ [x1])) from h.1).blk b hb).2⟩) (fun z wa wb e1 e2 h hG => hG) Zk Zk (fun y5 => ?_)
  refine ZR ?_
  refine ZD 4 (fun w1 hw h => stopFields_m (c := q.sc) (hp.st.below hw) Zo hsr) fun s => ?_
  refine K0.mutOp (L := bl y5.1) (val := fun (z : Option Addr × Nat) => .slice z.1 (0 + 1 + 2 + 2 + 1 + 6 + 2 * P.stops.length) z.2) (Φ' := fun (z : Option Addr × Nat) v => K6 v w.heap.size 9 1 z.1 (0 + 1 + 2 + 2 + 1 + 6 + 2 * P.stops.length) z.2 (sv (([] : WS) ++ [Kp] ++ [K7 P.p0x, K7 P.p0y] ++ [K7 P.p1x, K7 P.p1y] ++ [x1] ++ Lr P.T ++ stW P.stops))) (G := fun (z : Option Addr × Nat) v => K6 v w.heap.size 9 1 z.1 (0 + 1 + 2 + 2 + 1 + 6 + 2 * P.stops.length) z.2 (sv (([] : WS) ++ [Kp] ++ [K7 P.p0x, K7 P.p0y] ++ [K7 P.p1x, K7 P.p1y] ++ [x1] ++ Lr P.T ++ stW P.stops))) (M2 64 64 (.slice y5.1 (0 + 1 + 2 + 2 + 1 + 6) y5.2) (.slice s.1 (2 * P.stops.length) s.2)) (fun w1 hw h => Nd (p := ([] : WS) ++ [Kp] ++ [K7 P.p0x, K7 P.p0y] ++ [K7 P.p1x, K7 P.p1y] ++ [x1] ++ Lr P.T) (l := stW P.stops) (show K6 w1 w.heap.size 9 1 y5.1 (0 + 1 + 2 + 2 + 1 + 6) y5.2 (sv (([] : WS) ++ [Kp] ++ [K7 P.p0x, K7 P.p0y] ++ [K7 P.p1x, K7 P.p1y] ++ [x1] ++ Lr P.T)) from h.1) hw.size h.2 Zo) (fun w1 h => fun b hb => ⟨((show K6 w1 w.heap.size 9 1 y5.1 (0 + 1 + 2 + 2 + 1 + 6) y5.2 (sv (([] : WS) ++ [Kp] ++ [K7 P.p0x, K7 P.p0y] ++ [K7 P.p1x, K7 P.p1y] ++ [x1] ++ Lr P.T)) from h.1).lt b hb).1, ((show K6 w1 w.heap.size 9 1 y5.1 (0 + 1 + 2 + 2 + 1 + 6) y5.2 (sv (([] : WS) ++ [Kp] ++ [K7 P.p0x, K7 P.p0y] ++ [K7 P.p1x, K7 P.p1y] ++ [x1] ++ Lr P.T)) from h.1).blk b hb).2⟩) (fun z wa wb e1 e2 h hG => hG) Zk Zk (fun y6 => ?_)
  refine ZR ?_
  have e : Qe P = ([] : WS) ++ [Kp] ++ [K7 P.p0x, K7 P.p0y] ++ [K7 P.p1x, K7 P.p1y] ++ [x1] ++ Lr P.T ++ stW P.stops := by unfold Qe; rw [if_neg k1, if_neg (show ¬ P.kind = 4 by omega), if_pos k2, hx1]; simp
  have el : (Qe P).length = 0 + 1 + 2 + 2 + 1 + 6 + 2 * P.stops.length := by rw [e]; simp only [List.length_append, List.length_cons, List.length_nil, hsm]; show _ + 6 + _ = _; omega
  refine ZV (.slice y6.1 (0 + 1 + 2 + 2 + 1 + 6 + 2 * P.stops.length) y6.2) (fun w1 hw h => ⟨y6, by rw [el], hw, fun w'' k1 k2 => by rw [el, e]; exact (show K6 w'' w.heap.size 9 1 y6.1 (0 + 1 + 2 + 2 + 1 + 6 + 2 * P.stops.length) y6.2 (sv (([] : WS) ++ [Kp] ++ [K7 P.p0x, K7 P.p0y] ++ [K7 P.p1x, K7 P.p1y] ++ [x1] ++ Lr P.T ++ stW P.stops)) from h w'' k1 k2).strs⟩)
 refine ZJ ((P.kind == 2)) false (beq_eq_false_iff_ne.2 k2) ?_
 by_cases k3 : P.kind = 3
 case pos =>
  rw [if_neg k1, if_neg k2, if_pos k3, Bool.and_eq_true, Bool.and_eq_true, Bool.and_eq_true, decide_eq_true_iff] at hk
  obtain ⟨hp0, hrad, hst0, _⟩ := hk
  have hr0 := N4 hp0
  have hst2 := hst0
  rw [Bool.and_eq_true] at hst2
  have hs2 : 0 ≤ P.spread ∧ P.spread < 0 + 4 := by have := of_decide_eq_true (show decide (1 ≤ P.spread ∧ P.spread ≤ 3) = true from hst2.2); omega
  have hst1 := hst2.1
  unfold Mi at hst1
  rw [Bool.and_eq_true, decide_eq_true_iff] at hst1
  have hst := hst1.2
  have hst16 := hst1.1.2
  have hsr := stOK_mem (Int.le_refl 0) hst
  have hsm := stW_len P.stops
  refine K0.condr ((P.kind == 3)) true Zk (beq_iff_eq.2 k3) ?_
  refine ZS 1 ?_
  refine K0.make (Li (64) 1 #[(0, K4 Ku)]) (Ki 1) (L8 9 #[K4 Ku]) Zk (fun w1 hw h => Kb Zk) (fun ga => ?_)
  refine ZS 2 ?_
  refine K0.mutOp (L := bl ((some ⟨y0, 0, none⟩, 0) : Option Addr × Nat).1) (val := fun (z : Option Addr × Nat) => .slice z.1 (0 + 1) z.2) (Φ' := fun (z : Option Addr × Nat) v => K6 v w.heap.size 9 1 z.1 (0 + 1) z.2 (sv (([] : WS) ++ [Ku]))) (G := fun (z : Option Addr × Nat) v => K6 v w.heap.size 9 1 z.1 (0 + 1) z.2 (sv (([] : WS) ++ [Ku]))) (M2 64 64 (.slice ((some ⟨y0, 0, none⟩, 0) : Option Addr × Nat).1 (0) ((some ⟨y0, 0, none⟩, 0) : Option Addr × Nat).2) (Ki 1 ga)) (fun w1 hw h => Nd (p := ([] : WS)) (l := [Ku]) (show K6 w1 w.heap.size 9 1 ((some ⟨y0, 0, none⟩, 0) : Option Addr × Nat).1 (0) ((some ⟨y0, 0, none⟩, 0) : Option Addr × Nat).2 (sv (([] : WS))) from h.1.2) hw.size (Lv (L := [Ku]) h.2 rfl) Zd) (fun w1 h => fun b hb => ⟨((show K6 w1 w.heap.size 9 1 ((some ⟨y0, 0, none⟩, 0) : Option Addr × Nat).1 (0) ((some ⟨y0, 0, none⟩, 0) : Option Addr × Nat).2 (sv (([] : WS))) from h.1.2).lt b hb).1, ((show K6 w1 w.heap.size 9 1 ((some ⟨y0, 0, none⟩, 0) : Option Addr × Nat).1 (0) ((some ⟨y0, 0, none⟩, 0) : Option Addr × Nat).2 (sv (([] : WS))) from h.1.2).blk b hb).2⟩) (fun z wa wb e1 e2 h hG => hG) Zk Zk (fun y1 => ?_)
  refine ZR ?_
  refine ZD 4 (fun w1 hw h => pointFields_m (x := P.p0x) (y := P.p0y) Zo Zo) fun p => ?_
  refine K0.mutOp (L := bl y1.1) (val := fun (z : Option Addr × Nat) => .slice z.1 (0 + 1 + 2) z.2) (Φ' := fun (z : Option Addr × Nat) v => K6 v w.heap.size 9 1 z.1 (0 + 1 + 2) z.2 (sv (([] : WS) ++ [Ku] ++ [K7 P.p0x, K7 P.p0y]))) (G := fun (z : Option Addr × Nat) v => K6 v w.heap.size 9 1 z.1 (0 + 1 + 2) z.2 (sv (([] : WS) ++ [Ku] ++ [K7 P.p0x, K7 P.p0y]))) (M2 64 64 (.slice y1.1 (0 + 1) y1.2) (.slice (some ⟨p, 0, none⟩) 2 2)) (fun w1 hw h => Nd (p := ([] : WS) ++ [Ku]) (l := [K7 P.p0x, K7 P.p0y]) (show K6 w1 w.heap.size 9 1 y1.1 (0 + 1) y1.2 (sv (([] : WS) ++ [Ku])) from h.1) hw.size h.2 Zd) (fun w1 h => fun b hb => ⟨((show K6 w1 w.heap.size 9 1 y1.1 (0 + 1) y1.2 (sv (([] : WS) ++ [Ku])) from h.1).lt b hb).1, ((show K6 w1 w.heap.size 9 1 y1.1 (0 + 1) y1.2 (sv (([] : WS) ++ [Ku])) from h.1).blk b hb).2⟩) (fun z wa wb e1 e2 h hG => hG) Zk Zk (fun y2 => ?_)
  refine ZR ?_
  refine ZC (fun w1 hw h => Pb (n := P.rad) Zo Zo) fun f => ?_
  refine ZD 7 (fun w1 hw h => spreads_m) fun sp => ?_
  refine K0.askAt 7 (Kx 64 (.slice (some ⟨sp, 0, none⟩) 4 4) P.spread) (.pointer (some ((⟨sp, 0, none⟩ : Addr).add P.spread.toNat))) Zk (fun w1 hw h => (spread_at h.2 hs2).1) ?_
  refine ZS 8 ?_
  refine K0.askAt 8 (Ln 9 ((⟨sp, 0, none⟩ : Addr).add P.spread.toNat)) (K4 x1) Zk (fun w1 hw h => K9 Zk (by rw [hx1]; exact (spread_at h.2 hs2).2)) ?_
  refine ZS 9 ?_
  refine K0.make (Li (64) 2 #[(0, K4 (K7 P.rad)), (1, K4 x1)]) (Ki 2) (L8 9 #[K4 (K7 P.rad), K4 x1]) Zk (fun w1 hw h => Kb Zk) (fun gs => ?_)
  refine ZS 10 ?_
  refine K0.mutAny (L := bl y2.1) (val := fun (z : Option Addr × Nat) => .slice z.1 (0 + 1 + 2 + 2) z.2) (Φ' := fun (z : Option Addr × Nat) v => K6 v w.heap.size 9 1 z.1 (0 + 1 + 2 + 2) z.2 (sv (([] : WS) ++ [Ku] ++ [K7 P.p0x, K7 P.p0y] ++ [K7 P.rad, x1]))) (G := fun (z : Option Addr × Nat) v => K6 v w.heap.size 9 1 z.1 (0 + 1 + 2 + 2) z.2 (sv (([] : WS) ++ [Ku] ++ [K7 P.p0x, K7 P.p0y] ++ [K7 P.rad, x1]))) (M2 64 64 (.slice y2.1 (0 + 1 + 2) y2.2) (Ki 2 gs)) (fun w1 hw h => Nd (p := ([] : WS) ++ [Ku] ++ [K7 P.p0x, K7 P.p0y]) (l := [K7 P.rad, x1]) (show K6 w1 w.heap.size 9 1 y2.1 (0 + 1 + 2) y2.2 (sv (([] : WS) ++ [Ku] ++ [K7 P.p0x, K7 P.p0y])) from h.1.1.1) hw.size (Lv (L := [K7 P.rad, x1]) h.2 rfl) Zd) (fun w1 h => fun b hb => ⟨((show K6 w1 w.heap.size 9 1 y2.1 (0 + 1 + 2) y2.2 (sv (([] : WS) ++ [Ku] ++ [K7 P.p0x, K7 P.p0y])) from h.1.1.1).lt b hb).1, ((show K6 w1 w.heap.size 9 1 y2.1 (0 + 1 + 2) y2.2 (sv (([] : WS) ++ [Ku] ++ [K7 P.p0x, K7 P.p0y])) from h.1.1.1).blk b hb).2⟩) (fun z wa wb e1 e2 h hG => hG) Zk Zk (fun y4 => ?_)
  refine ZR ?_
  refine ZD 4 (fun w1 hw h => Qm (hp.tr.below hw) hK) fun t => ?_
  refine K0.mutOp (L := bl y4.1) (val := fun (z : Option Addr × Nat) => .slice z.1 (0 + 1 + 2 + 2 + 6) z.2) (Φ' := fun (z : Option Addr × Nat) v => K6 v w.heap.size 9 1 z.1 (0 + 1 + 2 + 2 + 6) z.2 (sv (([] : WS) ++ [Ku] ++ [K7 P.p0x, K7 P.p0y] ++ [K7 P.rad, x1] ++ Lr P.T))) (G := fun (z : Option Addr × Nat) v => K6 v w.heap.size 9 1 z.1 (0 + 1 + 2 + 2 + 6) z.2 (sv (([] : WS) ++ [Ku] ++ [K7 P.p0x, K7 P.p0y] ++ [K7 P.rad, x1] ++ Lr P.T))) (M2 64 64 (.slice y4.1 (0 + 1 + 2 + 2) y4.2) (.slice (some ⟨t, 0, none⟩) 6 6)) (fun w1 hw h => Nd (p := ([] : WS) ++ [Ku] ++ [K7 P.p0x, K7 P.p0y] ++ [K7 P.rad, x1]) (l := Lr P.T) (show K6 w1 w.heap.size 9 1 y4.1 (0 + 1 + 2 + 2) y4.2 (sv (([] : WS) ++ [Ku] ++ [K7 P.p0x, K7 P.p0y] ++ [K7 P.rad, x1])) from h.1) hw.size h.2 Zd) (fun w1 h => fun b hb => ⟨((show K6 w1 w.heap.size 9 1 y4.1 (0 + 1 + 2 + 2) y4.2 (sv (([] : WS) ++ [Ku] ++ [K7 P.p0x, K7 P.p0y] ++ [K7 P.rad, x1])) from h.1).lt b hb).1, ((show K6 w1 w.heap.size 9 1 y4.1 (0 + 1 + 2 + 2) y4.2 (sv (([] : WS) ++ [Ku] ++ [K7 P.p0x, K7 P.p0y] ++ [K7 P.rad, x1])) from h.1).blk b hb).2⟩) (fun z wa wb e1 e2 h hG => hG) Zk Zk (fun y5 => ?_)
  refine ZR ?_
  refine ZD 4 (fun w1 hw h => stopFields_m (c := q.sc) (hp.st.below hw) Zo hsr) fun s => ?_
  refine K0.mutOp (L := bl y5.1) (val := fun (z : Option Addr × Nat) => .slice z.1 (0 + 1 + 2 + 2 + 6 + 2 * P.stops.length) z.2) (Φ' := fun (z : Option Addr × Nat) v => K6 v w.heap.size 9 1 z.1 (0 + 1 + 2 + 2 + 6 + 2 * P.stops.length) z.2 (sv (([] : WS) ++ [Ku] ++ [K7 P.p0x, K7 P.p0y] ++ [K7 P.rad, x1] ++ Lr P.T ++ stW P.stops))) (G := fun (z : Option Addr × Nat) v => K6 v w.heap.size 9 1 z.1 (0 + 1 + 2 + 2 + 6 + 2 * P.stops.length) z.2 (sv (([] : WS) ++ [Ku] ++ [K7 P.p0x, K7 P.p0y] ++ [K7 P.rad, x1] ++ Lr P.T ++ stW P.stops))) (M2 64 64 (.slice y5.1 (0 + 1 + 2 + 2 + 6) y5.2) (.slice s.1 (2 * P.stops.length) s.2)) (fun w1 hw h => Nd (p := ([] : WS) ++ [Ku] ++ [K7 P.p0x, K7 P.p0y] ++ [K7 P.rad, x1] ++ Lr P.T) (l := stW P.stops) (show K6 w1 w.heap.size 9 1 y5.1 (0 + 1 + 2 + 2 + 6) y5.2 (sv (([] : WS) ++ [Ku] ++ [K7 P.p0x, K7 P.p0y] ++ [K7 P.rad, x1] ++ Lr P.T)) from h.1) hw.size h.2 Zo) (fun w1 h => fun b hb => ⟨((show K6 w1 w.heap.size 9 1 y5.1 (0 + 1 + 2 + 2 + 6) y5.2 (sv (([] : WS) ++ [Ku] ++ [K7 P.p0x, K7 P.p0y] ++ [K7 P.rad, x1] ++ Lr P.T)) from h.1).lt b hb).1, ((show K6 w1 w.heap.size 9 1 y5.1 (0 + 1 + 2 + 2 + 6) y5.2 (sv (([] : WS) ++ [Ku] ++ [K7 P.p0x, K7 P.p0y] ++ [K7 P.rad, x1] ++ Lr P.T)) from h.1).blk b hb).2⟩) (fun z wa wb e1 e2 h hG => hG) Zk Zk (fun y6 => ?_)
  refine ZR ?_
  have e : Qe P = ([] : WS) ++ [Ku] ++ [K7 P.p0x, K7 P.p0y] ++ [K7 P.rad, x1] ++ Lr P.T ++ stW P.stops := by unfold Qe; rw [if_neg k1, if_neg (show ¬ P.kind = 4 by omega), if_neg k2, hx1]; simp
  have el : (Qe P).length = 0 + 1 + 2 + 2 + 6 + 2 * P.stops.length := by rw [e]; simp only [List.length_append, List.length_cons, List.length_nil, hsm]; show _ + 6 + _ = _; omega
  refine ZV (.slice y6.1 (0 + 1 + 2 + 2 + 6 + 2 * P.stops.length) y6.2) (fun w1 hw h => ⟨y6, by rw [el], hw, fun w'' k1 k2 => by rw [el, e]; exact (show K6 w'' w.heap.size 9 1 y6.1 (0 + 1 + 2 + 2 + 6 + 2 * P.stops.length) y6.2 (sv (([] : WS) ++ [Ku] ++ [K7 P.p0x, K7 P.p0y] ++ [K7 P.rad, x1] ++ Lr P.T ++ stW P.stops)) from h w'' k1 k2).strs⟩)
 refine ZJ ((P.kind == 3)) false (beq_eq_false_iff_ne.2 k3) ?_
 by_cases k4 : P.kind = 4
 case neg => rw [if_neg k1, if_neg k2, if_neg k3, if_neg k4] at hk; cases hk
 rw [if_neg k1, if_neg k2, if_neg k3, if_pos k4, Bool.and_eq_true, Bool.and_eq_true, Bool.and_eq_true, Bool.or_eq_true, decide_eq_true_iff, decide_eq_true_iff] at hk
 obtain ⟨hi, hs, hm, _⟩ := hk
 have hs2 : 0 ≤ P.spread ∧ P.spread < 0 + 4 := by
  rcases hs with hs | hs
  ·omega
  ·have := of_decide_eq_true hs; omega
 unfold imOK at hi
 rw [Bool.and_eq_true, Bool.and_eq_true] at hi
 have hsz := of_decide_eq_true hi.1.1
 obtain ⟨x2, hx2⟩ : ∃ x, x = Me Mf 1 P.samp := ⟨_, rfl⟩
 refine ZD 4 (fun w1 hw h => spreads_m) fun sp => ?_
 refine K0.askAt 4 (Kx 64 (.slice (some ⟨sp, 0, none⟩) 4 4) P.spread) (.pointer (some ((⟨sp, 0, none⟩ : Addr).add P.spread.toNat))) Zk (fun w1 hw h => (spread_at h.2 hs2).1) ?_
 refine ZS 5 ?_
 refine K0.askAt 5 (Ln 9 ((⟨sp, 0, none⟩ : Addr).add P.spread.toNat)) (K4 x1) Zk (fun w1 hw h => K9 Zk (by rw [hx1]; exact (spread_at h.2 hs2).2)) ?_
 refine ZS 9 ?_
 refine ZD 9 (fun w1 hw h => samplings_m) fun lk => ?_
 refine K0.askAt 9 (Kx 64 (.slice (some ⟨lk, 0, none⟩) 3 3) P.samp) (.pointer (some ((⟨lk, 0, none⟩ : Addr).add P.samp.toNat))) Zk (fun w1 hw h => (look_at h.2 hm).1) ?_
 refine ZS 10 ?_
 refine K0.askAt 10 (Ln 9 ((⟨lk, 0, none⟩ : Addr).add P.samp.toNat)) (K4 x2) Zk (fun w1 hw h => K9 Zk (by rw [hx2]; exact (look_at h.2 hm).2)) ?_
 refine ZS 11 ?_
 refine K0.make (Li (64) 3 #[(0, K4 Kn), (1, K4 x1), (2, K4 x2)]) (Ki 3) (L8 9 #[K4 Kn, K4 x1, K4 x2]) Zk (fun w1 hw h => Kb Zk) (fun gs => ?_)
 refine ZS 12 ?_
 refine K0.mutAny (L := bl ((some ⟨y0, 0, none⟩, 0) : Option Addr × Nat).1) (val := fun (z : Option Addr × Nat) => .slice z.1 (0 + 3) z.2) (Φ' := fun (z : Option Addr × Nat) v => K6 v w.heap.size 9 1 z.1 (0 + 3) z.2 (sv (([] : WS) ++ [Kn, x1, x2]))) (G := fun (z : Option Addr × Nat) v => K6 v w.heap.size 9 1 z.1 (0 + 3) z.2 (sv (([] : WS) ++ [Kn, x1, x2]))) (M2 64 64 (.slice ((some ⟨y0, 0, none⟩, 0) : Option Addr × Nat).1 (0) ((some ⟨y0, 0, none⟩, 0) : Option Addr × Nat).2) (Ki 3 gs)) (fun w1 hw h => Nd (p := ([] : WS)) (l := [Kn, x1, x2]) (show K6 w1 w.heap.size 9 1 ((some ⟨y0, 0, none⟩, 0) : Option Addr × Nat).1 (0) ((some ⟨y0, 0, none⟩, 0) : Option Addr × Nat).2 (sv (([] : WS))) from h.1.1.1.2) hw.size (Lv (L := [Kn, x1, x2]) h.2 rfl) Zd) (fun w1 h => fun b hb => ⟨((show K6 w1 w.heap.size 9 1 ((some ⟨y0, 0, none⟩, 0) : Option Addr × Nat).1 (0) ((some ⟨y0, 0, none⟩, 0) : Option Addr × Nat).2 (sv (([] : WS))) from h.1.1.1.2).lt b hb).1, ((show K6 w1 w.heap.size 9 1 ((some ⟨y0, 0, none⟩, 0) : Option Addr × Nat).1 (0) ((some ⟨y0, 0, none⟩, 0) : Option Addr × Nat).2 (sv (([] : WS))) from h.1.1.1.2).blk b hb).2⟩) (fun z wa wb e1 e2 h hG => hG) Zk Zk (fun y4 => ?_)
 refine ZR ?_
 refine ZD 4 (fun w1 hw h => Qm (hp.tr.below hw) hK) fun t => ?_
 refine K0.mutOp (L := bl y4.1) (val := fun (z : Option Addr × Nat) => .slice z.1 (0 + 3 + 6) z.2) (Φ' := fun (z : Option Addr × Nat) v => K6 v w.heap.size 9 1 z.1 (0 + 3 + 6) z.2 (sv (([] : WS) ++ [Kn, x1, x2] ++ Lr P.T))) (G := fun (z : Option Addr × Nat) v => K6 v w.heap.size 9 1 z.1 (0 + 3 + 6) z.2 (sv (([] : WS) ++ [Kn, x1, x2] ++ Lr P.T))) (M2 64 64 (.slice y4.1 (0 + 3) y4.2) (.slice (some ⟨t, 0, none⟩) 6 6)) (fun w1 hw h => Nd (p := ([] : WS) ++ [Kn, x1, x2]) (l := Lr P.T) (show K6 w1 w.heap.size 9 1 y4.1 (0 + 3) y4.2 (sv (([] : WS) ++ [Kn, x1, x2])) from h.1) hw.size h.2 Zd) (fun w1 h => fun b hb => ⟨((show K6 w1 w.heap.size 9 1 y4.1 (0 + 3) y4.2 (sv (([] : WS) ++ [Kn, x1, x2])) from h.1).lt b hb).1, ((show K6 w1 w.heap.size 9 1 y4.1 (0 + 3) y4.2 (sv (([] : WS) ++ [Kn, x1, x2])) from h.1).blk b hb).2⟩) (fun z wa wb e1 e2 h hG => hG) Zk Zk (fun y5 => ?_)
 refine ZR ?_
 refine ZD 4 (fun w1 hw h => imageFields_m (y := (q.xA, q.xc)) (hp.px.below hw) hl Zo Zo) fun im => ?_
 refine K0.mutOp (L := bl y5.1) (val := fun (z : Option Addr × Nat) => .slice z.1 (0 + 3 + 6 + 3) z.2) (Φ' := fun (z : Option Addr × Nat) v => K6 v w.heap.size 9 1 z.1 (0 + 3 + 6 + 3) z.2 (sv (([] : WS) ++ [Kn, x1, x2] ++ Lr P.T ++ imW P.im))) (G := fun (z : Option Addr × Nat) v => K6 v w.heap.size 9 1 z.1 (0 + 3 + 6 + 3) z.2 (sv (([] : WS) ++ [Kn, x1, x2] ++ Lr P.T ++ imW P.im))) (M2 64 64 (.slice y5.1 (0 + 3 + 6) y5.2) (.slice (some ⟨im, 0, none⟩) 3 3)) (fun w1 hw h => Nd (p := ([] : WS) ++ [Kn, x1, x2] ++ Lr P.T) (l := imW P.im) (show K6 w1 w.heap.size 9 1 y5.1 (0 + 3 + 6) y5.2 (sv (([] : WS) ++ [Kn, x1, x2] ++ Lr P.T)) from h.1) hw.size h.2 Zd) (fun w1 h => fun b hb => ⟨((show K6 w1 w.heap.size 9 1 y5.1 (0 + 3 + 6) y5.2 (sv (([] : WS) ++ [Kn, x1, x2] ++ Lr P.T)) from h.1).lt b hb).1, ((show K6 w1 w.heap.size 9 1 y5.1 (0 + 3 + 6) y5.2 (sv (([] : WS) ++ [Kn, x1, x2] ++ Lr P.T)) from h.1).blk b hb).2⟩) (fun z wa wb e1 e2 h hG => hG) Zk Zk (fun y6 => ?_)
 refine ZR ?_
 have e : Qe P = ([] : WS) ++ [Kn, x1, x2] ++ Lr P.T ++ imW P.im := by unfold Qe; rw [if_neg k1, if_pos k4, hx1, hx2]; simp
 have el : (Qe P).length = 0 + 3 + 6 + 3 := by rw [e]; rfl
 refine ZV (.slice y6.1 (0 + 3 + 6 + 3) y6.2) (fun w1 hw h => ⟨y6, by rw [el], hw, fun w'' k1 k2 => by rw [el, e]; exact (show K6 w'' w.heap.size 9 1 y6.1 (0 + 3 + 6 + 3) y6.2 (sv (([] : WS) ++ [Kn, x1, x2] ++ Lr P.T ++ imW P.im)) from h w'' k1 k2).strs⟩)
theorem rformatPaint_n (hv : Lk P = false) (hp : PRd P q K w) (hK : 2 ≤ K ∧ K ≤ 1000) (hl : P.im.px.length ≤ 1000000000) (hsl : P.stops.length ≤ 1000000000) : Calls Tryz.prog 8 #[O5 P q] w (K5 w (fun _ : Unit => .tuple #[K4 [], .int .i64 16]) fun _ _ => True) := by
 refine K0.enter Tryz.func8 rfl ?_
 refine ZR ?_
 refine ZC (fun w1 hw h => rpvalid_v hv (hp.below hw) hK hl hsl) fun u => ?_
 refine ZI true ?_
 exact ZW (.tuple #[K4 [], .int .i64 16])
theorem rformatPaint_s (hv : Lk P = true) (hp : PRd P q K w) (hK : 2 ≤ K ∧ K ≤ 1000) (hl : P.im.px.length ≤ 20000) (hsl : P.stops.length ≤ 1000000000) : Calls Tryz.prog 8 #[O5 P q] w (K5 w (fun _ : Unit => .tuple #[K4 (M4 (Qe P)), .int .i64 0]) fun _ _ => True) := by
 have hs := pnW_sum hv
 refine K0.enter Tryz.func8 rfl ?_
 refine ZR ?_
 refine ZC (fun w1 hw h => rpvalid_v hv (hp.below hw) hK Zo hsl) fun u => ?_
 refine ZI false ?_
 refine ZC (fun w1 hw h => paintFields_m (hp.below hw) hv hK hl) fun y => ?_
 refine ZC (fun w1 hw h => rjoinFields_m (c := y.2) h.2 Zo Zo) fun v => ?_
 exact ZW (.tuple #[K4 (M4 (Qe P)), .int .i64 0])
end
end
section
open Go.RowKit
--ATNAMES
theorem rdPn_stops {f : Bool} {ws : WS} {P : Pn} (h : rdPn f ws = some (P, false)) : 2 * P.stops.length ≤ ws.length := by
 obtain ⟨_, hw⟩ := rdPn_clean h
 cases ws with
 | nil => cases h
 | cons k r =>
  rw [Pc] at h
  split at h
  ·unfold rdSol at h
   obtain ⟨c, h1, h⟩ := Option.bind_eq_some_iff.1 h
   split at h
   ·simp only [Option.some.injEq, Prod.mk.injEq] at h; obtain ⟨rfl, _⟩ := h; exact Nat.zero_le _
   ·cases h
  ·split at h
   ·unfold rdLin at h
    obtain ⟨_, _, h⟩ := Option.bind_eq_some_iff.1 h
    obtain ⟨_, _, h⟩ := Option.bind_eq_some_iff.1 h
    obtain ⟨_, _, h⟩ := Option.bind_eq_some_iff.1 h
    obtain ⟨_, _, h⟩ := Option.bind_eq_some_iff.1 h
    obtain ⟨_, _, h⟩ := Option.map_eq_some_iff.1 h
    simp only [Prod.mk.injEq] at h; obtain ⟨rfl, _⟩ := h
    rw [← hw]; unfold Qe; rw [if_neg (show ¬ (2 : Int) = 1 by decide), if_neg (show ¬ (2 : Int) = 4 by decide), if_pos rfl, List.length_append, stW_len]; omega
   ·split at h
    ·unfold rdRad at h
     obtain ⟨_, _, h⟩ := Option.bind_eq_some_iff.1 h
     obtain ⟨_, _, h⟩ := Option.bind_eq_some_iff.1 h
     obtain ⟨_, _, h⟩ := Option.bind_eq_some_iff.1 h
     obtain ⟨_, _, h⟩ := Option.bind_eq_some_iff.1 h
     obtain ⟨_, _, h⟩ := Option.map_eq_some_iff.1 h
     simp only [Prod.mk.injEq] at h; obtain ⟨rfl, _⟩ := h
     rw [← hw]; unfold Qe; rw [if_neg (show ¬ (3 : Int) = 1 by decide), if_neg (show ¬ (3 : Int) = 4 by decide), if_neg (show ¬ (3 : Int) = 2 by decide), List.length_append, stW_len]; omega
    ·split at h
     ·unfold rdPat at h
      obtain ⟨a1, _, h⟩ := Option.bind_eq_some_iff.1 h
      obtain ⟨a2, _, h⟩ := Option.bind_eq_some_iff.1 h
      obtain ⟨a3, _, h⟩ := Option.bind_eq_some_iff.1 h
      obtain ⟨a4, _, h⟩ := Option.bind_eq_some_iff.1 h
      split at h
      ·simp only [Option.some.injEq, Prod.mk.injEq] at h; obtain ⟨rfl, _⟩ := h; exact Nat.zero_le _
      ·cases h
     ·cases h
theorem prf0 {s : Bool} {u : World} : PRf s pn0 pm0 u := ⟨K6.nil_, K6.nil_, .inl ⟨(show (0 : Int) < 2 by decide), rfl, rfl⟩⟩
section
variable {w : World} {P : Pn} {q : PM} {K : Nat} {l : List UInt8}
theorem rparsePaint_m (hl : l.length ≤ 9000) : Calls Tryz.prog 10 #[K4 l] w (K5 w (fun q : PM => .tuple #[O5 (ppV l) q, .int .i64 (ppE l)]) fun q u => PRf false (ppV l) q u) := by
 have bad : ppO l = none → ppV l = pn0 ∧ ppE l = 3 := fun hO => ⟨by unfold ppV; rw [hO]; rfl, by unfold ppE; rw [hO]; rfl⟩
 refine K0.enter Tryz.func10 rfl ?_
 refine ZR ?_
 cases hB : Q6 (La l)
 ·obtain ⟨e1, e2⟩ := bad (by unfold ppO; rw [hB]; rfl)
  rw [e1, e2]
  refine ZC (fun w1 hw h => rsf_n hB Zo) fun y => ?_
  refine ZI true ?_
  refine ZV (.tuple #[O5 pn0 pm0, .int .i64 3]) (fun w1 hw h => ⟨pm0, rfl, hw, fun _ _ _ => prf0⟩)
 have hwm := words_mem2 hB
 have hwl := words_len2 (l := l)
 obtain ⟨ws, hws⟩ : ∃ ws, ws = L7 (La l) := ⟨_, rfl⟩
 have hsf := fun (w1 : World) => rsf_s (w := w1) hB (show l.length ≤ 10000 by omega)
 have hpO : ppO l = (match rdPn false ws with | some (P, false) => if Lk P then some P else none | _ => none) := by rw [hws]; unfold ppO; rw [hB]; rfl
 rw [← hws] at hwm hwl hsf
 have hsim := pn_sim (ws := ws)
 obtain ⟨p, hp⟩ : ∃ p, p = pnR ws ⟨0, false, false⟩ := ⟨_, rfl⟩
 rw [← hp] at hsim
 have hWs : ∀ {w1 : World} {y : Option Addr × Nat}, L6 w1 y.1 ws.length ws → WsAt w1 y.1 ws.length ws := fun h => ⟨h, by omega, fun s hs => by have := hwm s hs; omega⟩
 have bad2 : ¬ (p.2.ok ∧ p.2.i = ws.length) → ppO l = none := fun hc => by
  rw [hpO]
  split
  ·rename_i P hr
   exact absurd (hsim.2 P ⟨rfl, rfl⟩ (Nat.zero_le _) hr) (fun h => hc ⟨h.1, h.2.1⟩)
  ·rfl
 refine ZC (fun w1 hw h => hsf w1) fun y => ?_
 refine ZI false ?_
 refine ZC (fun w1 hw h => by have t := parsePaint_m45 (c := y.2) (x := ⟨0, false, false⟩) (hWs h.2) rfl; rw [← hp] at t; exact t) fun q => ?_
 by_cases hcm : p.2.syn = false ∧ p.2.i = ws.length
 case neg =>
  obtain ⟨e1, e2⟩ := bad (bad2 fun h => hcm ⟨h.1.1, h.2⟩)
  refine ZC (fun w1 hw h => complete_v (A := y.1) (n := ws.length) (c := y.2) (x := p.2) (B := false) (by rw [Bool.eq_false_iff]; intro h9; rw [Bool.and_eq_true, beq_iff_eq] at h9; exact hcm ⟨by simpa using h9.1, by omega⟩)) fun u => ?_
  refine ZI true ?_
  refine ZV (.tuple #[O5 pn0 pm0, .int .i64 3]) (fun w1 hw h => ⟨pm0, by rw [e1, e2], hw, fun _ _ _ => by rw [e1]; exact prf0⟩)
 refine ZD 8 (fun w1 hw h => complete_v (A := y.1) (n := ws.length) (c := y.2) (x := p.2) (B := true) (by rw [hcm.1, hcm.2]; simp)) fun u => ?_
 by_cases hrg : p.2.rng = true
 case pos =>
  obtain ⟨e1, e2⟩ := bad (bad2 fun h => by have h7 := h.1.2; rw [hrg] at h7; cases h7)
  refine ZT 31 (.bool p.2.rng) (.bool true) (by rw [hrg]) ?_
  refine ZI true ?_
  refine ZV (.tuple #[O5 pn0 pm0, .int .i64 3]) (fun w1 hw h => ⟨pm0, by rw [e1, e2], hw, fun _ _ _ => by rw [e1]; exact prf0⟩)
 have hok : p.2.ok := ⟨hcm.1, by simpa using hrg⟩
 have hrd := (hsim.1 hok hcm.2).2
 have hpx := px_small hrd hwm
 have hst := rdPn_stops hrd
 rw [hrd] at hpO
 have hpO : ppO l = if Lk p.1 then some p.1 else none := hpO
 refine ZT 31 (.bool p.2.rng) (.bool false) (by rw [hok.2]) ?_
 cases hv : Lk p.1
 ·rw [hv] at hpO
  obtain ⟨e1, e2⟩ := bad hpO
  refine ZC (fun w1 hw h => rpvalid_v hv (h.1.2.rd) Zd Zo Zo) fun v => ?_
  refine ZI true ?_
  refine ZV (.tuple #[O5 pn0 pm0, .int .i64 3]) (fun w1 hw h => ⟨pm0, by rw [e1, e2], hw, fun _ _ _ => by rw [e1]; exact prf0⟩)
 ·rw [hv] at hpO
  have e1 : ppV l = p.1 := by unfold ppV; rw [hpO]; rfl
  have e2 : ppE l = 0 := by unfold ppE; rw [hpO]; rfl
  refine ZC (fun w1 hw h => rpvalid_v hv (h.1.2.rd) Zd Zo Zo) fun v => ?_
  refine ZI false ?_
  refine ZV (.tuple #[O5 p.1 q, .int .i64 0]) (fun w1 hw h => ⟨q, by rw [e1, e2], hw, fun w'' k1 k2 => by rw [e1]; have t := (h w'' k1 k2).1.1.2; rw [hok.1] at t; exact t⟩)
theorem rsame_st {A A2 : Option Addr} {n c c2 : Nat} {l : List (Int × Co)} (h1 : Qg w A n 5 P3 l) (h2 : Qg w A2 n 5 P3 l) (hn : n ≤ 1000000000) : Calls Tryz.prog 156 #[.slice A n c, .slice A2 n c2] w (K5 w (fun _ : Unit => .bool true) fun _ _ => True) := by
 have hln := h1.1
 refine K0.enter Tryz.func156 rfl ?_
 refine ZR ?_
 refine ZJ (((n : Int) != (n : Int))) false (bne_self_eq_false _) ?_
 refine K0.loop (ι := {q : Nat // q ≤ n}) 26 (fun q => ⟨[(0, .v (.slice A n c)), (1, .v (.slice A2 n c2)), (5, .v (.int .i64 q.1))], []⟩) (fun q u => True) (fun q => n - q.1) (⟨0, Nat.zero_le _⟩) Zk (fun _ => by kernel_rfl) ⟨Zk, Zk, Zk⟩ (fun u h => trivial) ?_
 rintro ⟨k, hk⟩ gg
 have hk : k ≤ n := hk
 by_cases hlt : k < n
 case neg =>
  obtain rfl : k = n := by omega
  refine ZR ?_
  refine ZJ (decide ((k : Int) < (k : Int))) false Zs ?_
  refine K0.leave Zk ?_
  refine ZR ?_
  exact ZW (.bool true)
 obtain ⟨x, hx⟩ : ∃ x, l[k]? = some x := ⟨_, List.getElem?_eq_getElem Zo⟩
 obtain ⟨a, hA, hc⟩ := h1.2 k x hx
 obtain ⟨b, hB, hd⟩ := h2.2 k x hx
 refine ZR ?_
 refine K0.condr (decide ((k : Int) < (n : Int))) true Zk Zp ?_
 refine ZS 2 ?_
 refine K0.askAt 2 (Kx 26 (.slice A n c) k) (.pointer (some (a.add (k * 5)))) Zk (fun w1 hw h => st_idx hA hlt) ?_
 refine ZS 3 ?_
 refine K0.askAt 3 (Ln 104 (a.add (k * 5))) (.agg (P3 x).toArray) Zk (fun w1 hw h => st_ld fun j v hj => Mw hw (hc j v hj)) ?_
 refine ZS 6 ?_
 refine K0.askAt 6 (Kx 26 (.slice A2 n c2) k) (.pointer (some (b.add (k * 5)))) Zk (fun w1 hw h => st_idx hB hlt) ?_
 refine ZS 7 ?_
 refine K0.askAt 7 (Ln 104 (b.add (k * 5))) (.agg (P3 x).toArray) Zk (fun w1 hw h => st_ld fun j v hj => Mw hw (hd j v hj)) ?_
 refine ZS 8 ?_
 refine ZB 8 (neP 104 (.tmp 20) (.tmp 24) (.agg (P3 x).toArray) (.agg (P3 x).toArray)) (.bool false) (fun w1 hw h => run_ne_stop Zs) ?_
 refine ZI false ?_
 refine K0.slot 5 (.int .i64 (IntKind.i64.wrap ((k : Int) + 1))) (.int .i64 ((k + 1 : Nat) : Int)) Zk (by rw [Kf hlt Zo]) ?_
 refine K0.next (⟨k + 1, by show k + 1 ≤ n; omega⟩) Zk (by show n - (k + 1) < n - k; omega) ⟨Zk, Zk, Zk⟩ (fun u h => trivial)
theorem rsame_im {m : Im} {y y2 : Option Addr × Nat} (h1 : Qg w y.1 m.px.length 4 Ns m.px) (h2 : Qg w y2.1 m.px.length 4 Ns m.px) (hn : m.px.length ≤ 1000000000) : Calls Tryz.prog 31 #[imV m y, imV m y2] w (K5 w (fun _ : Unit => .bool true) fun _ _ => True) := by
 refine K0.enter Tryz.func31 rfl ?_
 refine ZS 6 ?_
 refine K0.slot 11 (.bool (m.w != m.w)) (.bool false) Zk (by rw [bne_self_eq_false]) ?_
 refine ZS 13 ?_
 refine ZT 18 (.bool (m.h != m.h)) (.bool false) (by rw [bne_self_eq_false]) ?_
 refine ZJ (((m.px.length : Int) != (m.px.length : Int))) false (bne_self_eq_false _) ?_
 refine K0.loop (ι := {q : Nat // q ≤ m.px.length}) 45 (fun q => ⟨[(2, .p 2 0), (3, .p 3 0), (5, .v (.int .i64 q.1))], [(2, [.v (.int .i64 m.w), .v (.int .i64 m.h), .v (.slice y.1 m.px.length y.2)]), (3, [.v (.int .i64 m.w), .v (.int .i64 m.h), .v (.slice y2.1 m.px.length y2.2)])]⟩) (fun q u => True) (fun q => m.px.length - q.1) (⟨0, Nat.zero_le _⟩) Zk (fun _ => by kernel_rfl) ⟨Zk, Zk, Zk⟩ (fun u h => trivial) ?_
 rintro ⟨k, hk⟩ gg
 have hk : k ≤ m.px.length := hk
 by_cases hlt : k < m.px.length
 case neg =>
  have hkn : m.px.length = k := by omega
  refine ZR ?_
  refine ZJ (decide ((k : Int) < (m.px.length : Int))) false Zp ?_
  refine K0.leave Zk ?_
  refine ZR ?_
  exact ZW (.bool true)
 obtain ⟨x, hx⟩ : ∃ x, m.px[k]? = some x := ⟨_, List.getElem?_eq_getElem Zo⟩
 obtain ⟨a, hA, hc⟩ := h1.2 k x hx
 obtain ⟨b, hB, hd⟩ := h2.2 k x hx
 refine ZR ?_
 refine K0.condr (decide ((k : Int) < (m.px.length : Int))) true Zk Zp ?_
 refine ZS 3 ?_
 refine K0.askAt 3 (Kx 27 (.slice y.1 m.px.length y.2) k) (.pointer (some (a.add (k * 4)))) Zk (fun w1 hw h => px_idx hA hlt) ?_
 refine ZS 4 ?_
 refine K0.askAt 4 (Ln 127 (a.add (k * 4))) (.agg (Ns x).toArray) Zk (fun w1 hw h => px_ld fun j v hj => Mw hw (hc j v hj)) ?_
 refine ZS 8 ?_
 refine K0.askAt 8 (Kx 27 (.slice y2.1 m.px.length y2.2) k) (.pointer (some (b.add (k * 4)))) Zk (fun w1 hw h => px_idx hB hlt) ?_
 refine ZS 9 ?_
 refine K0.askAt 9 (Ln 127 (b.add (k * 4))) (.agg (Ns x).toArray) Zk (fun w1 hw h => px_ld fun j v hj => Mw hw (hd j v hj)) ?_
 refine ZS 10 ?_
 refine ZB 10 (neP 127 (.tmp 38) (.tmp 43) (P8 x) (P8 x)) (.bool false) (fun w1 hw h => run_ne_px Zs) ?_
 refine ZI false ?_
 refine K0.slot 5 (.int .i64 (IntKind.i64.wrap ((k : Int) + 1))) (.int .i64 ((k + 1 : Nat) : Int)) Zk (by rw [Kf hlt Zo]) ?_
 refine K0.next (⟨k + 1, by show k + 1 ≤ m.px.length; omega⟩) Zk (by show m.px.length - (k + 1) < m.px.length - k; omega) ⟨Zk, Zk, Zk⟩ (fun u h => trivial)
theorem eq_ptS {a b : Operand} {x y : Int} : (eqP 25 a b (pt x y) (pt x y)).run Tryz.prog w = .ok (.value (.bool true)) w := by
 rw [run_eqP]; simp
theorem requal_v {q2 : PM} (h1 : PRd P q K w) (h2 : PRd P q2 K w) (hK : 2 ≤ K ∧ K ≤ 1000) (hn : P.stops.length ≤ 1000000000 ∧ P.im.px.length ≤ 1000000000) : Calls Tryz.prog 82 #[O5 P q, O5 P q2] w (K5 w (fun _ : Unit => .bool true) fun _ _ => True) := by
 refine K0.enter Tryz.func82 rfl ?_
 refine ZS 6 ?_
 refine K0.slot 10 (.bool (P.kind == P.kind)) (.bool true) Zk (by rw [beq_self_eq_true]) ?_
 refine ZS 10 ?_
 refine K0.ask (eqP 23 (.tmp 12) (.tmp 14) (P8 P.co) (P8 P.co)) (.bool true) Zk (fun w1 hw h => O9 Zs) ?_
 refine ZS 17 ?_
 refine K0.ask (eqP 25 (.tmp 19) (.tmp 21) (pt P.p0x P.p0y) (pt P.p0x P.p0y)) (.bool true) Zk (fun w1 hw h => eq_ptS) ?_
 refine ZS 24 ?_
 refine K0.ask (eqP 25 (.tmp 26) (.tmp 28) (pt P.p1x P.p1y) (pt P.p1x P.p1y)) (.bool true) Zk (fun w1 hw h => eq_ptS) ?_
 refine ZS 34 ?_
 refine ZT 38 (.bool (P.rad == P.rad)) (.bool true) (by rw [beq_self_eq_true]) ?_
 refine ZD 48 (fun w1 hw h => rsame_st (c := q.sc) (c2 := q2.sc) (h1.st.below hw) (h2.st.below hw) hn.1) fun u1 => ?_
 refine ZT 52 (.bool (P.spread == P.spread)) (.bool true) (by rw [beq_self_eq_true]) ?_
 refine ZD 62 (fun w1 hw h => rsame_im (y := (q.xA, q.xc)) (y2 := (q2.xA, q2.xc)) (h1.px.below hw) (h2.px.below hw) hn.2) fun u2 => ?_
 refine ZT 66 (.bool (P.samp == P.samp)) (.bool true) (by rw [beq_self_eq_true]) ?_
 refine ZC (fun w1 hw h => requalA_v (T := P.T) (U := P.T) eqA_rfl (h1.tr.below hw) (h2.tr.below hw) Zo) fun u3 => ?_
 exact ZW (.bool true)
def ndC (g : Nat) : List Value := [.int .i64 0, .int .i64 0, .int .i64 0] ++ (tv0.cl ++ [.slice none 0 0, .int .i64 0, .int .u8 0, .int .i64 0, .bool false, .bool false, .slice none 0 0, .int .i64 0, .slice (some ⟨g, 0, none⟩) 1 1, .int .i64 0, .int .i64 0, .int .i64 0, .int .i64 0, .slice none 0 0, .int .i64 0, .slice none 0 0, .int .i64 0, .int .i64 0, .slice none 0 0, .int .i64 0])
@[reducible] def ndV (g : Nat) : Value := .agg (ndC g).toArray
theorem rpath_nil : Calls Tryz.prog 28 #[.slice none 0 0, .slice none 0 0] w (K5 w (fun _ : Unit => .bool true) fun _ _ => True) := by
 refine K0.enter Tryz.func28 rfl ?_
 refine ZR ?_
 refine ZI false ?_
 refine K0.un Zk ?_
 refine ZR ?_
 refine ZI false ?_
 exact ZW (.bool true)
theorem rpaints_nil : Calls Tryz.prog 29 #[.slice none 0 0, .slice none 0 0] w (K5 w (fun _ : Unit => .bool true) fun _ _ => True) := by
 refine K0.enter Tryz.func29 rfl ?_
 refine ZR ?_
 refine ZI false ?_
 refine K0.un Zk ?_
 refine ZR ?_
 refine ZI false ?_
 exact ZW (.bool true)
def stV0 : Value := .agg #[.int .i64 0, .int .i64 0, .int .i64 0, .int .i64 0, .slice none 0 0, .int .i64 0]
theorem rstyle_nil : Calls Tryz.prog 30 #[stV0, stV0] w (K5 w (fun _ : Unit => .bool true) fun _ _ => True) := by
 refine K0.enter Tryz.func30 rfl ?_
 refine ZR ?_
 refine ZI false ?_
 refine K0.un Zk ?_
 refine ZR ?_
 refine ZI false ?_
 exact ZW (.bool true)
theorem paint_box {u : World} {g : Nat} (h : L8 38 (pnC P q).toArray g u) : u.rangeAt g 0 (pnC P q) := by
 unfold L8 at h
 intro j v hv
 simp only [World.cell?, h, Option.isSome_none, Bool.false_eq_true, if_false, Nat.zero_add]
 simpa using hv
theorem rpaints_v {q2 : PM} {g g2 : Nat} (h1 : PRd P q K w) (h2 : PRd P q2 K w) (hg : L8 38 (pnC P q).toArray g w) (hg2 : L8 38 (pnC P q2).toArray g2 w) (hK : 2 ≤ K ∧ K ≤ 1000) (hn : P.stops.length ≤ 1000000000 ∧ P.im.px.length ≤ 1000000000) : Calls Tryz.prog 29 #[.slice (some ⟨g, 0, none⟩) 1 1, .slice (some ⟨g2, 0, none⟩) 1 1] w (K5 w (fun _ : Unit => .bool true) fun _ _ => True) := by
 have hb : ∀ w1 : World, Below w.heap.size w w1 → L8 38 (pnC P q).toArray g w1 ∧ L8 38 (pnC P q2).toArray g2 w1 := fun w1 hw => by
  unfold L8 at hg hg2 ⊢
  exact ⟨(hw.block g (Array.getElem?_eq_some_iff.1 hg).1).trans hg, (hw.block g2 (Array.getElem?_eq_some_iff.1 hg2).1).trans hg2⟩
 refine K0.enter Tryz.func29 rfl ?_
 refine ZR ?_
 refine ZI false ?_
 refine K0.un Zk ?_
 refine ZR ?_
 refine K0.cond true Zk ?_
 refine ZS 2 ?_
 refine K0.askAt 2 (Kx 48 (.slice (some ⟨g, 0, none⟩) 1 1) (0 : Nat)) (.pointer (some ((⟨g, 0, none⟩ : Addr).add (0 * 40)))) Zk (fun w1 hw h => Pt (elem := 38) Zk Zk Zd) ?_
 refine ZS 3 ?_
 refine K0.askAt 3 (Ln 38 ⟨g, 0, none⟩) (.agg (pnC P q).toArray) Zk (fun w1 hw h => Ly (vs := pnC P q) Zk Zk (paint_box (hb w1 hw).1)) ?_
 refine ZS 6 ?_
 refine K0.askAt 6 (Kx 48 (.slice (some ⟨g2, 0, none⟩) 1 1) (0 : Nat)) (.pointer (some ((⟨g2, 0, none⟩ : Addr).add (0 * 40)))) Zk (fun w1 hw h => Pt (elem := 38) Zk Zk Zd) ?_
 refine ZS 7 ?_
 refine ZB 7 (Ln 38 ⟨g2, 0, none⟩) (.agg (pnC P q2).toArray) (fun w1 hw h => Ly (vs := pnC P q2) Zk Zk (paint_box (hb w1 hw).2)) ?_
 refine ZC (fun w1 hw h => requal_v (h1.below hw) (h2.below hw) hK hn) fun u => ?_
 refine ZI false ?_
 refine ZI false ?_
 exact ZW (.bool true)
theorem rnode_v {q2 : PM} {g g2 : Nat} (h1 : PRd P q K w) (h2 : PRd P q2 K w) (hg : L8 38 (pnC P q).toArray g w) (hg2 : L8 38 (pnC P q2).toArray g2 w) (hK : 2 ≤ K ∧ K ≤ 1000) (hn : P.stops.length ≤ 1000000000 ∧ P.im.px.length ≤ 1000000000) : Calls Tryz.prog 12 #[ndV g, ndV g2] w (K5 w (fun _ : Unit => .bool true) fun _ _ => True) := by
 have hb : ∀ w1 : World, Below w.heap.size w w1 → L8 38 (pnC P q).toArray g w1 ∧ L8 38 (pnC P q2).toArray g2 w1 := fun w1 hw => by
  unfold L8 at hg hg2 ⊢
  exact ⟨(hw.block g (Array.getElem?_eq_some_iff.1 hg).1).trans hg, (hw.block g2 (Array.getElem?_eq_some_iff.1 hg2).1).trans hg2⟩
 refine K0.enter Tryz.func12 rfl ?_
 refine ZR ?_
 refine ZC (fun w1 hw h => requalA_v (t := tv0) (u := tv0) (T := Nw) (U := Nw) eqA_rfl (IsA.zero (K := K) (w := w1)) (IsA.zero (w := w1)) Zo) fun u1 => ?_
 refine ZI false ?_
 refine ZI false ?_
 refine ZC (fun w1 hw h => rpath_nil) fun u2 => ?_
 refine ZC (fun w1 hw h => rpath_nil) fun u3 => ?_
 refine ZC (fun w1 hw h => rpaints_v (h1.below hw) (h2.below hw) (hb w1 hw).1 (hb w1 hw).2 hK hn) fun u4 => ?_
 refine ZC (fun w1 hw h => rpaints_nil) fun u5 => ?_
 refine ZC (fun w1 hw h => rstyle_nil) fun u6 => ?_
 refine ZC (fun w1 hw h => rsame_im (m := im0) (y := (none, 0)) (y2 := (none, 0)) ⟨rfl, fun k x h => by simp [im0] at h⟩ ⟨rfl, fun k x h => by simp [im0] at h⟩ Zd) fun u7 => ?_
 exact ZW (.bool true)
end
end
section
open Go.RowKit
--ATNAMES
def Om (t : TV) : Bool := decide (t.a.a.n ≤ 12) && (decide (t.a.b.n ≤ 12) && (decide (t.b.a.n ≤ 12) && (decide (t.b.b.n ≤ 12) && (decide (t.c.a.n ≤ 12) && (decide (t.c.b.n ≤ 12) && (decide (t.d.a.n ≤ 12) && (decide (t.d.b.n ≤ 12) && (decide (t.e.a.n ≤ 12) && (decide (t.e.b.n ≤ 12) && (decide (t.f.a.n ≤ 12) && decide (t.f.b.n ≤ 12)))))))))))
theorem gt12_t {n : Nat} (h : decide ((n : Int) > 12) = true) : decide (n ≤ 12) = false := decide_eq_false (by have := of_decide_eq_true h; omega)
theorem gt12_f {n : Nat} (h : decide ((n : Int) > 12) = false) : decide (n ≤ 12) = true := decide_eq_true (by have := of_decide_eq_false h; omega)
section
variable {w : World} {P : Pn} {q : PM} {K : Nat} {l : List UInt8} {t : TV}
theorem short_isA (h : Om t = true) (i : InT t w) : ∃ T, IsA t T 12 w := by
 unfold Om at h
 simp only [Bool.and_eq_true, decide_eq_true_eq] at h
 obtain ⟨a1, a2, b1, b2, c1, c2, d1, d2, e1, e2, f1, f2⟩ := h
 have k : ∀ {r : RV}, InR r w → r.a.n ≤ 12 → r.b.n ≤ 12 → ∃ q, IsQ r q 12 w := fun h h1 h2 => ⟨_, _, _, of_in h.1 h1, of_in h.2 h2, rfl⟩
 obtain ⟨a, ha⟩ := k i.a a1 a2
 obtain ⟨b, hb⟩ := k i.b b1 b2
 obtain ⟨c, hc⟩ := k i.c c1 c2
 obtain ⟨d, hd⟩ := k i.d d1 d2
 obtain ⟨e, he⟩ := k i.e e1 e2
 obtain ⟨f, hf⟩ := k i.f f1 f2
 exact ⟨⟨a, b, c, d, e, f⟩, ha, hb, hc, hd, he, hf⟩
theorem short_m : Calls Tryz.prog 13 #[t.val] w (K5 w (fun _ : Unit => .bool (Om t)) fun _ _ => True) := by
 refine K0.enter Tryz.func13 rfl ?_
 refine ZS 12 ?_
 refine K0.make (Li 80 6 #[(0, t.a.val), (1, t.b.val), (2, t.c.val), (3, t.d.val), (4, t.e.val), (5, t.f.val)]) (Ki 6) (L8 34 t.cl.toArray) Zk (fun w1 hw h => Kb Zk) (fun g => ?_)
 refine ZR ?_
 have hg : ∀ v : World, L8 34 t.cl.toArray g v → K8 v g t.cl := fun v h => ⟨_, h⟩
 have hcell : ∀ {v : World} {k j : Nat} {cs : List Value} {x : Value}, v.rangeAt g k cs → cs[j]? = some x → v.cell? ⟨g, k + j, none⟩ = some x := fun h1 h2 => h1 _ _ h2
 refine K0.un Zk ?_
 refine ZR ?_
 refine ZI true ?_
 refine ZA (Kx 80 (Ki 6 g) 0) (.pointer (some ⟨g, 0 * 4, none⟩)) (fun w1 hw h => Lc (elem := 34) Zk Zk Zd) ?_
 refine K0.ask (Ln 30 ⟨g, 1, none⟩) (.slice t.a.a.A t.a.a.n t.a.a.c) Zk (fun w1 hw h => K9 Zk (hcell (k := 0 * 4) (j := 1) (six_a (hg _ h.2)) rfl)) ?_
 refine ZS 9 ?_
 refine K0.fork 31 (decide ((t.a.a.n : Int) > 12)) Zk (fun hc => ?_) (fun hc => ?_)
 ·
  refine K0.runC Zk (stop := 1000) 6000 _ ?_
  exact ZX (.bool false) (by unfold Om; rw [gt12_t hc]; simp)
 have haa := gt12_f hc
 clear hc
 refine ZR ?_
 refine ZA (Kx 80 (Ki 6 g) 0) (.pointer (some ⟨g, 0 * 4, none⟩)) (fun w1 hw h => Lc (elem := 34) Zk Zk Zd) ?_
 refine ZA (Ln 30 ⟨g, 3, none⟩) (.slice t.a.b.A t.a.b.n t.a.b.c) (fun w1 hw h => K9 Zk (hcell (k := 0 * 4) (j := 3) (six_a (hg _ h.2)) rfl)) ?_
 refine K0.both (decide ((t.a.b.n : Int) > 12)) Zk (fun hc => ?_) (fun hc => ?_)
 ·
  refine K0.runC Zk (stop := 1000) 6000 _ ?_
  exact ZX (.bool false) (by unfold Om; rw [gt12_t hc]; simp)
 have hba := gt12_f hc
 clear hc
 refine ZR ?_
 refine ZI true ?_
 refine ZA (Kx 80 (Ki 6 g) 1) (.pointer (some ⟨g, 1 * 4, none⟩)) (fun w1 hw h => Lc (elem := 34) Zk Zk Zd) ?_
 refine K0.ask (Ln 30 ⟨g, 5, none⟩) (.slice t.b.a.A t.b.a.n t.b.a.c) Zk (fun w1 hw h => K9 Zk (hcell (k := 1 * 4) (j := 1) (six_b (hg _ h.2)) rfl)) ?_
 refine ZS 9 ?_
 refine K0.fork 31 (decide ((t.b.a.n : Int) > 12)) Zk (fun hc => ?_) (fun hc => ?_)
 ·
  refine K0.runC Zk (stop := 1000) 6000 _ ?_
  exact ZX (.bool false) (by unfold Om; rw [gt12_t hc]; simp)
 have hab := gt12_f hc
 clear hc
 refine ZR ?_
 refine ZA (Kx 80 (Ki 6 g) 1) (.pointer (some ⟨g, 1 * 4, none⟩)) (fun w1 hw h => Lc (elem := 34) Zk Zk Zd) ?_
 refine ZA (Ln 30 ⟨g, 7, none⟩) (.slice t.b.b.A t.b.b.n t.b.b.c) (fun w1 hw h => K9 Zk (hcell (k := 1 * 4) (j := 3) (six_b (hg _ h.2)) rfl)) ?_
 refine K0.both (decide ((t.b.b.n : Int) > 12)) Zk (fun hc => ?_) (fun hc => ?_)
 ·
  refine K0.runC Zk (stop := 1000) 6000 _ ?_
  exact ZX (.bool false) (by unfold Om; rw [gt12_t hc]; simp)
 have hbb := gt12_f hc
 clear hc
 refine ZR ?_
 refine ZI true ?_
 refine ZA (Kx 80 (Ki 6 g) 2) (.pointer (some ⟨g, 2 * 4, none⟩)) (fun w1 hw h => Lc (elem := 34) Zk Zk Zd) ?_
 refine K0.ask (Ln 30 ⟨g, 9, none⟩) (.slice t.c.a.A t.c.a.n t.c.a.c) Zk (fun w1 hw h => K9 Zk (hcell (k := 2 * 4) (j := 1) (six_c (hg _ h.2)) rfl)) ?_
 refine ZS 9 ?_
 refine K0.fork 31 (decide ((t.c.a.n : Int) > 12)) Zk (fun hc => ?_) (fun hc => ?_)
 ·
  refine K0.runC Zk (stop := 1000) 6000 _ ?_
  exact ZX (.bool false) (by unfold Om; rw [gt12_t hc]; simp)
 have hac := gt12_f hc
 clear hc
 refine ZR ?_
 refine ZA (Kx 80 (Ki 6 g) 2) (.pointer (some ⟨g, 2 * 4, none⟩)) (fun w1 hw h => Lc (elem := 34) Zk Zk Zd) ?_
 refine ZA (Ln 30 ⟨g, 11, none⟩) (.slice t.c.b.A t.c.b.n t.c.b.c) (fun w1 hw h => K9 Zk (hcell (k := 2 * 4) (j := 3) (six_c (hg _ h.2)) rfl)) ?_
 refine K0.both (decide ((t.c.b.n : Int) > 12)) Zk (fun hc => ?_) (fun hc => ?_)
 ·
  refine K0.runC Zk (stop := 1000) 6000 _ ?_
  exact ZX (.bool false) (by unfold Om; rw [gt12_t hc]; simp)
 have hbc := gt12_f hc
 clear hc
 refine ZR ?_
 refine ZI true ?_
 refine ZA (Kx 80 (Ki 6 g) 3) (.pointer (some ⟨g, 3 * 4, none⟩)) (fun w1 hw h => Lc (elem := 34) Zk Zk Zd) ?_
 refine K0.ask (Ln 30 ⟨g, 13, none⟩) (.slice t.d.a.A t.d.a.n t.d.a.c) Zk (fun w1 hw h => K9 Zk (hcell (k := 3 * 4) (j := 1) (six_d (hg _ h.2)) rfl)) ?_
 refine ZS 9 ?_
 refine K0.fork 31 (decide ((t.d.a.n : Int) > 12)) Zk (fun hc => ?_) (fun hc => ?_)
 ·
  refine K0.runC Zk (stop := 1000) 6000 _ ?_
  exact ZX (.bool false) (by unfold Om; rw [gt12_t hc]; simp)
 have had := gt12_f hc
 clear hc
 refine ZR ?_
 refine ZA (Kx 80 (Ki 6 g) 3) (.pointer (some ⟨g, 3 * 4, none⟩)) (fun w1 hw h => Lc (elem := 34) Zk Zk Zd) ?_
 refine ZA (Ln 30 ⟨g, 15, none⟩) (.slice t.d.b.A t.d.b.n t.d.b.c) (fun w1 hw h => K9 Zk (hcell (k := 3 * 4) (j := 3) (six_d (hg _ h.2)) rfl)) ?_
 refine K0.both (decide ((t.d.b.n : Int) > 12)) Zk (fun hc => ?_) (fun hc => ?_)
 ·
  refine K0.runC Zk (stop := 1000) 6000 _ ?_
  exact ZX (.bool false) (by unfold Om; rw [gt12_t hc]; simp)
 have hbd := gt12_f hc
 clear hc
 refine ZR ?_
 refine ZI true ?_
 refine ZA (Kx 80 (Ki 6 g) 4) (.pointer (some ⟨g, 4 * 4, none⟩)) (fun w1 hw h => Lc (elem := 34) Zk Zk Zd) ?_
 refine K0.ask (Ln 30 ⟨g, 17, none⟩) (.slice t.e.a.A t.e.a.n t.e.a.c) Zk (fun w1 hw h => K9 Zk (hcell (k := 4 * 4) (j := 1) (six_e (hg _ h.2)) rfl)) ?_
 refine ZS 9 ?_
 refine K0.fork 31 (decide ((t.e.a.n : Int) > 12)) Zk (fun hc => ?_) (fun hc => ?_)
 ·
  refine K0.runC Zk (stop := 1000) 6000 _ ?_
  exact ZX (.bool false) (by unfold Om; rw [gt12_t hc]; simp)
 have hae := gt12_f hc
 clear hc
 refine ZR ?_
 refine ZA (Kx 80 (Ki 6 g) 4) (.pointer (some ⟨g, 4 * 4, none⟩)) (fun w1 hw h => Lc (elem := 34) Zk Zk Zd) ?_
 refine ZA (Ln 30 ⟨g, 19, none⟩) (.slice t.e.b.A t.e.b.n t.e.b.c) (fun w1 hw h => K9 Zk (hcell (k := 4 * 4) (j := 3) (six_e (hg _ h.2)) rfl)) ?_
 refine K0.both (decide ((t.e.b.n : Int) > 12)) Zk (fun hc => ?_) (fun hc => ?_)
 ·
  refine K0.runC Zk (stop := 1000) 6000 _ ?_
  exact ZX (.bool false) (by unfold Om; rw [gt12_t hc]; simp)
 have hbe := gt12_f hc
 clear hc
 refine ZR ?_
 refine ZI true ?_
 refine ZA (Kx 80 (Ki 6 g) 5) (.pointer (some ⟨g, 5 * 4, none⟩)) (fun w1 hw h => Lc (elem := 34) Zk Zk Zd) ?_
 refine K0.ask (Ln 30 ⟨g, 21, none⟩) (.slice t.f.a.A t.f.a.n t.f.a.c) Zk (fun w1 hw h => K9 Zk (hcell (k := 5 * 4) (j := 1) (six_f (hg _ h.2)) rfl)) ?_
 refine ZS 9 ?_
 refine K0.fork 31 (decide ((t.f.a.n : Int) > 12)) Zk (fun hc => ?_) (fun hc => ?_)
 ·
  refine K0.runC Zk (stop := 1000) 6000 _ ?_
  exact ZX (.bool false) (by unfold Om; rw [gt12_t hc]; simp)
 have haf := gt12_f hc
 clear hc
 refine ZR ?_
 refine ZA (Kx 80 (Ki 6 g) 5) (.pointer (some ⟨g, 5 * 4, none⟩)) (fun w1 hw h => Lc (elem := 34) Zk Zk Zd) ?_
 refine ZA (Ln 30 ⟨g, 23, none⟩) (.slice t.f.b.A t.f.b.n t.f.b.c) (fun w1 hw h => K9 Zk (hcell (k := 5 * 4) (j := 3) (six_f (hg _ h.2)) rfl)) ?_
 refine K0.both (decide ((t.f.b.n : Int) > 12)) Zk (fun hc => ?_) (fun hc => ?_)
 ·
  refine K0.runC Zk (stop := 1000) 6000 _ ?_
  exact ZX (.bool false) (by unfold Om; rw [gt12_t hc]; simp)
 have hbf := gt12_f hc
 clear hc
 refine ZR ?_
 refine ZI false ?_
 exact ZX (.bool true) (by unfold Om; rw [haa, hba, hab, hbb, hac, hbc, had, hbd, hae, hbe, haf, hbf]; rfl)
def smallP (P : Pn) (q : PM) : Bool := Om q.t && (decide (P.stops.length ≤ 40) && decide (P.im.px.length ≤ 1000))
theorem short_v {B : Bool} (hB : Om t = B) : Calls Tryz.prog 13 #[t.val] w (K5 w (fun _ : Unit => .bool B) fun _ _ => True) := by subst hB; exact short_m
theorem P9 {B : Bool} (hB : smallP P q = B) : Calls Tryz.prog 5 #[O5 P q] w (K5 w (fun _ : Unit => .bool B) fun _ _ => True) := by
 unfold smallP at hB
 refine K0.enter Tryz.func5 rfl ?_
 refine ZR ?_
 cases h1 : Om q.t
 ·rw [h1, Bool.false_and] at hB
  refine ZC (fun w1 hw h => short_v h1) fun u => ?_
  exact ZX (.bool false) (by rw [← hB])
 rw [h1, Bool.true_and] at hB
 refine ZD 10 (fun w1 hw h => short_v h1) fun u => ?_
 by_cases h2 : P.stops.length ≤ 40
 case neg =>
  rw [decide_eq_false h2, Bool.false_and] at hB
  refine ZT 12 (.bool (decide ((P.stops.length : Int) ≤ 40))) (.bool false) (by rw [decide_eq_false Zo]) ?_
  exact ZX (.bool false) (by rw [← hB])
 rw [decide_eq_true h2, Bool.true_and] at hB
 refine ZT 12 (.bool (decide ((P.stops.length : Int) ≤ 40))) (.bool true) (by rw [decide_eq_true Zo]) ?_
 exact ZX (.bool (decide ((P.im.px.length : Int) ≤ 1000))) (by rw [← hB]; congr 2; exact decide_eq_decide.2 Zo)
def SameT (t u : TV) (T : Aff) (w : World) : Prop := (t = tv0 ∧ u = tv0) ∨ (IsAN t T 125 w ∧ IsAN u T 125 w)
theorem fields_v {u : TV} {T : Aff} (h : SameT t u T w) : Calls Tryz.prog 26 #[t.val, u.val] w (K5 w (fun _ : Unit => .bool true) fun _ _ => True) := by
 rcases h with ⟨rfl, rfl⟩ | ⟨h1, h2⟩
 ·exact fieldsO_m (e := 1) (T := Nw) (K1 := 2) (K2 := 2) (outA0 Zd) (outA0 Zd)
 ·exact fieldsN_m eqA_rfl h1 h2
theorem SameT.below {u : TV} {T : Aff} {w1 : World} (h : SameT t u T w) (hw : Below w.heap.size w w1) : SameT t u T w1 := h.imp id fun k => ⟨k.1.below hw, k.2.below hw⟩
theorem samePaint_v {q2 : PM} (h1 : PRd P q K w) (h2 : PRd P q2 K w) (h3 : SameT q.t q2.t P.T w) (hK : 2 ≤ K ∧ K ≤ 1000) (hn : P.stops.length ≤ 1000000000 ∧ P.im.px.length ≤ 1000000000) : Calls Tryz.prog 11 #[O5 P q, O5 P q2] w (K5 w (fun _ : Unit => .bool true) fun _ _ => True) := by
 refine K0.enter Tryz.func11 rfl ?_
 refine K0.run Zk (stop := 1000) 7 _ ?_
 refine ZS 1 ?_
 refine K0.make (Li (48) 1 #[(0, O5 P q)]) (Ki 1) (L8 38 (pnC P q).toArray) Zk (fun w1 hw h => Kb Zk) (fun g => ?_)
 refine ZS 1 ?_
 refine K0.make (Li (48) 1 #[(0, O5 P q2)]) (Ki 1) (L8 38 (pnC P q2).toArray) Zk (fun w1 hw h => Kb Zk) (fun g2 => ?_)
 refine ZR ?_
 refine ZC (fun w1 hw h => rnode_v (h1.below hw) (h2.below hw) h.1.2 h.2 hK hn) fun u => ?_
 refine ZC (fun w1 hw h => fields_v (h3.below hw)) fun u2 => ?_
 exact ZW (.bool true)
end
def shCol : Sh := .cons 1 (.int .u8) (.cons 1 (.int .u8) (.cons 1 (.int .u8) (.cons 1 (.int .u8) .nil)))
def shPnt : Sh := .cons 1 (.int .i64) (.cons 1 (.int .i64) .nil)
def shStop : Sh := .cons 1 (.int .i64) (.cons 4 shCol .nil)
def shImg : Sh := .cons 1 (.int .i64) (.cons 1 (.int .i64) (.cons 1 (.sl 4 shCol) .nil))
def shPaint : Sh := .cons 1 (.int .i64) (.cons 4 shCol (.cons 2 shPnt (.cons 2 shPnt (.cons 1 (.int .i64) (.cons 1 (.sl 5 shStop) (.cons 1 (.int .i64) (.cons 3 shImg (.cons 1 (.int .i64) (.cons 24 shAff .nil)))))))))
section
variable {w : World} {cs : List Value}
theorem rd_u8 (h : Rd w (.int .u8) cs) : ∃ c : UInt8, cs = [.int .u8 (c.toNat : Int)] := by
 obtain ⟨z, rfl, hz⟩ := h
 have h2 : 0 ≤ z ∧ z ≤ 255 := by
  simp only [Lit.wf, Bool.and_eq_true, decide_eq_true_iff] at hz
  exact hz
 refine ⟨UInt8.ofNat z.toNat, ?_⟩
 have h3 : (UInt8.ofNat z.toNat).toNat = z.toNat := by
  rw [UInt8.toNat_ofNat']
  omega
 rw [h3, Int.toNat_of_nonneg h2.1]
theorem rd_col (h : Rd w shCol cs) : ∃ c : Co, cs = Ns c := by
 obtain ⟨_, _, rfl, _, h1, h⟩ := Lu h
 obtain ⟨_, _, rfl, _, h2, h⟩ := Lu h
 obtain ⟨_, _, rfl, _, h3, h⟩ := Lu h
 obtain ⟨_, _, rfl, _, h4, h⟩ := Lu h
 obtain rfl := h
 obtain ⟨a, rfl⟩ := rd_u8 h1
 obtain ⟨b, rfl⟩ := rd_u8 h2
 obtain ⟨c, rfl⟩ := rd_u8 h3
 obtain ⟨d, rfl⟩ := rd_u8 h4
 exact ⟨(a, b, c, d), rfl⟩
theorem rd_pnt (h : Rd w shPnt cs) : ∃ x y : Int, cs = [.int .i64 x, .int .i64 y] := by
 obtain ⟨_, _, rfl, _, h1, h⟩ := Lu h
 obtain ⟨_, _, rfl, _, h2, h⟩ := Lu h
 obtain rfl := h
 obtain ⟨a, rfl, _⟩ := h1
 obtain ⟨b, rfl, _⟩ := h2
 exact ⟨a, b, rfl⟩
theorem rd_stop (h : Rd w shStop cs) : ∃ x : Int × Co, cs = P3 x := by
 obtain ⟨_, _, rfl, _, h1, h⟩ := Lu h
 obtain ⟨_, _, rfl, _, h2, h⟩ := Lu h
 obtain rfl := h
 obtain ⟨a, rfl, _⟩ := h1
 obtain ⟨c, rfl⟩ := rd_col h2
 exact ⟨(a, c), rfl⟩
theorem rd_rowA {α : Type} {n : Nat} {e : Sh} {cl : α → List Value} (he : ∀ xs, Rd w e xs → ∃ x, xs = cl x) (h : Rd w (.sl n e) cs) : ∃ (A : Option Addr) (cap : Nat) (l : List α), cs = [.slice A l.length cap] ∧ Qg w A l.length n cl l := by
 obtain ⟨A, len, cap, rfl, _, _, hel⟩ := h
 have hx : ∀ i : Fin len, ∃ x : α, ∃ ad, A = some ad ∧ ∀ (j : Nat) (v : Value), (cl x)[j]? = some v → w.cell? ((ad.add (i.1 * n)).add j) = some v := fun i => by
  obtain ⟨ad, xs, h1, _, h2, h3⟩ := hel i.1 i.2
  obtain ⟨x, rfl⟩ := he xs h3
  exact ⟨x, ad, h1, h2⟩
 have hlen : (List.ofFn fun i : Fin len => Classical.choose (hx i)).length = len := List.length_ofFn
 refine ⟨A, cap, List.ofFn fun i : Fin len => Classical.choose (hx i), by rw [hlen], rfl, fun k x hk => ?_⟩
 obtain ⟨h1, h2⟩ := List.getElem?_eq_some_iff.1 hk
 rw [List.getElem_ofFn] at h2
 have := Classical.choose_spec (hx ⟨k, by rw [hlen] at h1; exact h1⟩)
 rw [h2] at this
 exact this
theorem rd_paint (h : Rd w shPaint cs) : ∃ (P : Pn) (q : PM), cs = pnC P q ∧ Qg w q.sA P.stops.length 5 P3 P.stops ∧ Qg w q.xA P.im.px.length 4 Ns P.im.px ∧ InT q.t w := by
 obtain ⟨_, _, rfl, _, h1, h⟩ := Lu h
 obtain ⟨_, _, rfl, _, h2, h⟩ := Lu h
 obtain ⟨_, _, rfl, _, h3, h⟩ := Lu h
 obtain ⟨_, _, rfl, _, h4, h⟩ := Lu h
 obtain ⟨_, _, rfl, _, h5, h⟩ := Lu h
 obtain ⟨_, _, rfl, _, h6, h⟩ := Lu h
 obtain ⟨_, _, rfl, _, h7, h⟩ := Lu h
 obtain ⟨_, _, rfl, _, h8, h⟩ := Lu h
 obtain ⟨_, _, rfl, _, h9, h⟩ := Lu h
 obtain ⟨_, _, rfl, _, h10, h⟩ := Lu h
 obtain rfl := h
 obtain ⟨k, rfl, _⟩ := h1
 obtain ⟨c, rfl⟩ := rd_col h2
 obtain ⟨x0, y0, rfl⟩ := rd_pnt h3
 obtain ⟨x1, y1, rfl⟩ := rd_pnt h4
 obtain ⟨r, rfl, _⟩ := h5
 obtain ⟨sA, sc, l, rfl, hst⟩ := rd_rowA (fun xs => rd_stop) h6
 obtain ⟨sp, rfl, _⟩ := h7
 obtain ⟨_, _, rfl, _, i1, h⟩ := Lu h8
 obtain ⟨_, _, rfl, _, i2, h⟩ := Lu h
 obtain ⟨_, _, rfl, _, i3, h⟩ := Lu h
 obtain rfl := h
 obtain ⟨iw, rfl, _⟩ := i1
 obtain ⟨ih, rfl, _⟩ := i2
 obtain ⟨xA, xc, px, rfl, hpx⟩ := rd_rowA (fun xs => rd_col) i3
 obtain ⟨sm, rfl, _⟩ := h9
 obtain ⟨t, rfl, ht⟩ := rd_aff h10
 exact ⟨⟨k, c, x0, y0, x1, y1, r, l, sp, ⟨iw, ih, px⟩, sm, Nw⟩, ⟨sA, sc, xA, xc, t⟩, by simp [pnC, Ns], hst, hpx, ht⟩
end
end
theorem rdI_fmt {lo hi z : Int} {f : Bool} {r : WS} (h : lo ≤ z ∧ z ≤ hi) (h2 : -9223372036854775808 ≤ z ∧ z ≤ 9223372036854775807) : rdI lo hi f (K7 z :: r) = some (z, true, r, f) := by
 obtain ⟨h3, h4⟩ := pi_fmt h2
 have hE : Pd (K7 z) lo hi = 0 := by unfold Pd; rw [if_pos h3, h4, if_neg Zo]
 have hV : prgV (K7 z) lo hi = z := by unfold prgV; rw [if_pos hE, h4]
 rw [Ou, if_pos hE, hV]
theorem rdN_fmt {z : Int} {f : Bool} {r : WS} (h2 : -9223372036854775808 ≤ z ∧ z ≤ 9223372036854775807) : rdN f (K7 z :: r) = some (z, r, f) := by
 unfold rdN
 rw [rdI_fmt (by unfold mnI mxI; exact h2) h2]; rfl
theorem rdW_spread {z : Int} {f : Bool} {r : WS} (h : 0 ≤ z ∧ z < 0 + 4) : rdW Kq 0 f (Me Kq 0 z :: r) = some (z, r, f) := by
 obtain ⟨k, rfl⟩ : ∃ k : Nat, z = (k : Int) := ⟨z.toNat, by omega⟩
 have hk : k < 4 := by omega
 match k, hk with
 | 0, _ => rfl
 | 1, _ => rfl
 | 2, _ => rfl
 | 3, _ => rfl
theorem rdW_look {z : Int} {f : Bool} {r : WS} (h : z = 1 ∨ z = 2) : rdW Mf 1 f (Me Mf 1 z :: r) = some (z, r, f) := by
 rcases h with rfl | rfl
 ·rfl
 ·rfl
theorem rdC_col {c : Co} {f : Bool} {r : WS} : rdC f (Mp c :: r) = some (c, r, f) := by
 show (Qf (Mp c)).map _ = _
 rw [colP_W]; rfl
theorem rdQ_fmt {q : Rat} {f : Bool} {r : WS} (h : bitsQ q ≤ 256) : rdQ f (Kk q :: r) = some (q, r, f) := by
 have h8 : pw 8 ≤ pw 40 := pw_le Zd
 have h1 : q.num.natAbs < pw 8 := bits_8 (by unfold bitsQ at h; omega)
 have h2 : q.den < pw 8 := bits_8 (by unfold bitsQ at h; omega)
 obtain ⟨h3, h4⟩ := read_fmtQ (Nat.lt_of_lt_of_le h1 h8) (Nat.lt_of_lt_of_le h2 h8)
 rw [Kr, if_pos h3, h4]
theorem rdA_fmt {T : Aff} {f : Bool} {r : WS} (h : T.ok = true) : rdA f (Lr T ++ r) = some (T, r, f) := by
 obtain ⟨h1, h2, h3, h4, h5, h6⟩ := Aff.ok_bits h
 show rdA f (Kk T.a :: Kk T.b :: Kk T.c :: Kk T.d :: Kk T.e :: Kk T.f :: r) = _
 unfold rdA
 rw [rdQ_fmt h1]; simp only [Option.bind_some]
 rw [rdQ_fmt h2]; simp only [Option.bind_some]
 rw [rdQ_fmt h3]; simp only [Option.bind_some]
 rw [rdQ_fmt h4]; simp only [Option.bind_some]
 rw [rdQ_fmt h5]; simp only [Option.bind_some]
 rw [rdQ_fmt h6]; rfl
theorem rdS_fmt : ∀ {l : List (Int × Co)} {a : Int}, 0 ≤ a → stOK a l = true → rdS false (stW l) = some (l, false)
 | [], a, _, _ => by show rdS false [] = _; unfold rdS; rfl
 | x :: l, a, ha, h => by
  have h : (decide (a ≤ x.1 ∧ x.1 ≤ 65536) && stOK x.1 l) = true := h
  rw [Bool.and_eq_true, decide_eq_true_iff] at h
  have ih := rdS_fmt (show 0 ≤ x.1 by omega) h.2
  show rdS false (K7 x.1 :: Mp x.2 :: stW l) = _
  rw [rdS_step (z := x.1) (k := x.2) (v := Mp x.2 :: stW l) (r := stW l) (rdN_fmt Zo) rdC_col, ih]; rfl
theorem rdIm_fmt {m : Im} (h : imOK m = true) : rdIm false (imW m) = some (m, [], false) := by
 unfold imOK at h
 rw [Bool.and_eq_true, Bool.and_eq_true, decide_eq_true_iff] at h
 obtain ⟨⟨h1, h2⟩, _⟩ := h
 have hsz := of_decide_eq_true (show decide _ = true from h1)
 unfold rdIm imW
 rw [rdI_fmt Zo Zo]; simp only [Option.bind_some]
 rw [rdI_fmt Zo Zo]; simp only [Option.bind_some]
 unfold hexW
 rw [decL_enc]
 simp only []
 have hl := flat_len4 m.px
 rw [if_neg (by rw [hl]; omega), if_neg Zp, if_neg (by rw [hl, Int.mul_assoc, ← h2]; simp), flat_quads]
theorem rdPn_fmt {P : Pn} (hv : Lk P = true) : rdPn false (Qe P) = some (P, false) := by
 unfold Lk at hv
 rw [Bool.and_eq_true, Bool.and_eq_true, decide_eq_true_iff] at hv
 obtain ⟨hok, hz, hk⟩ := hv
 unfold kindOK at hk
 obtain ⟨kind, co, p0x, p0y, p1x, p1y, rad, stops, spread, im, samp, T⟩ := P
 obtain ⟨iw, ih, ipx⟩ := im
 simp only at hk hok
 unfold wof zeroP at hz
 simp only at hz
 by_cases k1 : kind = 1
 ·subst k1
  rw [if_pos rfl] at hk
  simp only [if_true] at hz
  obtain ⟨_, ⟨rfl, rfl⟩, ⟨rfl, rfl⟩, rfl, rfl, rfl, rfl, ⟨rfl, rfl, rfl⟩⟩ := hz
  have hT := eqA_eq hk
  subst hT
  show rdPn false [Nj, Mp co] = _
  rw [Pc, if_pos rfl]
  unfold rdSol
  rw [rdC_col]; rfl
 by_cases k4 : kind = 4
 ·subst k4
  rw [if_neg Zd, if_neg Zd, if_neg Zd, if_pos rfl, Bool.and_eq_true, Bool.and_eq_true, Bool.and_eq_true, Bool.or_eq_true, decide_eq_true_iff, decide_eq_true_iff] at hk
  obtain ⟨hi, hs, hm, _⟩ := hk
  have hs2 : 0 ≤ spread ∧ spread < 0 + 4 := by
   rcases hs with hs | hs
   ·omega
   ·have := of_decide_eq_true (show decide _ = true from hs); omega
  rw [if_neg Zd, if_neg Zd, if_neg Zd, if_pos rfl] at hz
  obtain ⟨rfl, ⟨rfl, rfl⟩, ⟨rfl, rfl⟩, rfl, _, _, rfl, _⟩ := hz
  have e : Qe ⟨4, Pp, 0, 0, 0, 0, 0, [], spread, ⟨iw, ih, ipx⟩, samp, T⟩ = Kn :: Me Kq 0 spread :: Me Mf 1 samp :: (Lr T ++ imW ⟨iw, ih, ipx⟩) := by unfold Qe; rw [if_neg (show ¬ (4 : Int) = 1 by decide), if_pos rfl]; simp
  rw [e, Pc, if_neg Zd, if_neg Zd, if_neg Zd, if_pos rfl]
  unfold rdPat
  rw [rdW_spread hs2]; simp only [Option.bind_some]
  rw [rdW_look hm]; simp only [Option.bind_some]
  rw [rdA_fmt hok]; simp only [Option.bind_some]
  rw [rdIm_fmt hi]; simp only [Option.bind_some]
  rfl
 by_cases k2 : kind = 2
 ·subst k2
  rw [if_neg Zd, if_pos rfl, Bool.and_eq_true, Bool.and_eq_true, Bool.and_eq_true, Bool.and_eq_true] at hk
  obtain ⟨hp0, hp1, ⟨hst, hsp⟩, _⟩ := hk
  have hr0 := N4 hp0
  have hr1 := N4 hp1
  have hs2 : 0 ≤ spread ∧ spread < 0 + 4 := by have := of_decide_eq_true (show decide (1 ≤ spread ∧ spread ≤ 3) = true from hsp); omega
  unfold Mi at hst
  rw [Bool.and_eq_true] at hst
  rw [if_neg Zd, if_pos rfl] at hz
  obtain ⟨rfl, _, _, rfl, _, rfl, _, ⟨rfl, rfl, rfl⟩⟩ := hz
  have e : Qe ⟨2, Pp, p0x, p0y, p1x, p1y, 0, stops, spread, ⟨0, 0, []⟩, 0, T⟩ = Kp :: K7 p0x :: K7 p0y :: K7 p1x :: K7 p1y :: Me Kq 0 spread :: (Lr T ++ stW stops) := by unfold Qe; rw [if_neg (show ¬ (2 : Int) = 1 by decide), if_neg (show ¬ (2 : Int) = 4 by decide), if_pos rfl]; simp
  rw [e, Pc, if_neg Zd, if_pos rfl]
  unfold rdLin rdP2
  rw [rdN_fmt Zo]; simp only [Option.bind_some]
  rw [rdN_fmt Zo]; simp only [Option.bind_some, Option.map_some]
  rw [rdN_fmt Zo]; simp only [Option.bind_some]
  rw [rdN_fmt Zo]; simp only [Option.bind_some, Option.map_some]
  rw [rdW_spread hs2]; simp only [Option.bind_some]
  rw [rdA_fmt hok]; simp only [Option.bind_some]
  rw [rdS_fmt (Int.le_refl 0) hst.2]; rfl
 by_cases k3 : kind = 3
 ·subst k3
  rw [if_neg Zd, if_neg Zd, if_pos rfl, Bool.and_eq_true, Bool.and_eq_true, Bool.and_eq_true, Bool.and_eq_true, decide_eq_true_iff] at hk
  obtain ⟨hp0, hrad, ⟨hst, hsp⟩, _⟩ := hk
  have hr0 := N4 hp0
  have hs2 : 0 ≤ spread ∧ spread < 0 + 4 := by have := of_decide_eq_true (show decide (1 ≤ spread ∧ spread ≤ 3) = true from hsp); omega
  unfold Mi at hst
  rw [Bool.and_eq_true] at hst
  rw [if_neg Zd, if_neg Zd, if_pos rfl] at hz
  obtain ⟨rfl, _, ⟨rfl, rfl⟩, _, _, rfl, _, ⟨rfl, rfl, rfl⟩⟩ := hz
  have e : Qe ⟨3, Pp, p0x, p0y, 0, 0, rad, stops, spread, ⟨0, 0, []⟩, 0, T⟩ = Ku :: K7 p0x :: K7 p0y :: K7 rad :: Me Kq 0 spread :: (Lr T ++ stW stops) := by unfold Qe; rw [if_neg (show ¬ (3 : Int) = 1 by decide), if_neg (show ¬ (3 : Int) = 4 by decide), if_neg (show ¬ (3 : Int) = 2 by decide)]; simp
  rw [e, Pc, if_neg Zd, if_neg Zd, if_pos rfl]
  unfold rdRad rdP2
  rw [rdN_fmt Zo]; simp only [Option.bind_some]
  rw [rdN_fmt Zo]; simp only [Option.bind_some, Option.map_some]
  rw [rdN_fmt Zo]; simp only [Option.bind_some]
  rw [rdW_spread hs2]; simp only [Option.bind_some]
  rw [rdA_fmt hok]; simp only [Option.bind_some]
  rw [rdS_fmt (Int.le_refl 0) hst.2]; rfl
 rw [if_neg k1, if_neg k2, if_neg k3, if_neg k4] at hk; cases hk
theorem plain_digit {b : UInt8} (h : 48 ≤ b.toNat ∧ b.toNat ≤ 57) : L5 b = true := by
 unfold L5
 simp [h.1, h.2]
def Pl (x : List UInt8) : Prop := x ≠ [] ∧ ∀ b ∈ x, L5 b = true
theorem Pl.quo {x : List UInt8} (h : Pl x) : M8 x = x := by
 unfold M8
 rw [if_neg h.1]
 have : ∀ l : List UInt8, (∀ b ∈ l, L5 b = true) → l.flatMap q1 = l := fun l => by
  induction l with
  | nil => intro _; rfl
  | cons b l ih => intro h; rw [List.flatMap_cons, q1_plain (h b Zs), ih fun c hc => h c (by simp [hc])]; rfl
 exact this x h.2
theorem pl_decS (n : Nat) : Pl (Nc n) := by
 refine ⟨fun h => ?_, fun b hb => ?_⟩
 ·have := decS_isD n
  unfold Nc at h
  split at h
  ·cases h
  ·rename_i h0
   rw [List.reverse_eq_nil_iff, Oz h0] at h; cases h
 ·have := decS_isD n b hb
  exact plain_digit Zo
theorem Pe (x : Int) : Pl (K7 x) := by
 unfold K7
 split
 ·refine ⟨by simp, fun b hb => ?_⟩
  rcases List.mem_cons.1 hb with rfl | hb
  ·decide +kernel
  ·exact (pl_decS _).2 b hb
 ·exact pl_decS _
theorem pl_fmtQ (q : Rat) : Pl (Kk q) := by
 unfold Kk
 split
 ·exact Pe _
 ·refine ⟨by simp, fun b hb => ?_⟩
  rcases List.mem_append.1 hb with hb | hb
  ·exact (Pe _).2 b hb
  ·rcases List.mem_cons.1 hb with rfl | hb
   ·decide +kernel
   ·exact (Pe _).2 b hb
theorem hexC_plain : ∀ n, n < 16 → L5 (My n) = true := by decide +kernel
theorem pl_encL {l : List UInt8} (h : l ≠ []) : Pl (Nz l) := by
 refine ⟨fun hc => ?_, fun b hb => ?_⟩
 ·have := Na l
  rw [hc] at this
  exact h (List.length_eq_zero_iff.1 (by simp at this; omega))
 ·unfold Nz at hb
  obtain ⟨c, _, hb⟩ := List.mem_flatMap.1 hb
  obtain ⟨h1, h2⟩ := hex_lt c
  simp only [enc2, List.mem_cons, List.mem_nil_iff, or_false] at hb
  rcases hb with rfl | rfl
  ·exact hexC_plain _ h1
  ·exact hexC_plain _ h2
theorem pl_colW (c : Co) : Pl (Mp c) := by
 refine ⟨by unfold Mp; simp, fun b hb => ?_⟩
 unfold Mp at hb
 rcases List.mem_cons.1 hb with rfl | hb
 ·decide +kernel
 ·exact (pl_encL (by unfold coB; simp)).2 b hb
theorem pl_name {l : WS} {frm k : Int} (h : ∀ x ∈ l, x ≠ [] ∧ x.all L5 = true) (h0 : 0 ≤ k - frm ∧ k - frm < l.length) : Pl (Me l frm k) := by
 unfold Me
 cases hk : l[(k - frm).toNat]? with
 | none => exact absurd (List.getElem?_eq_none_iff.1 hk) Zo
 | some x =>
  obtain ⟨h1, h2⟩ := h x (List.mem_of_getElem? hk)
  exact ⟨h1, fun b hb => List.all_eq_true.1 h2 b hb⟩
theorem pl_affW (T : Aff) : ∀ x ∈ Lr T, Pl x := fun x hx => by
 unfold Lr at hx
 simp only [List.mem_cons, List.mem_nil_iff, or_false] at hx
 rcases hx with rfl | rfl | rfl | rfl | rfl | rfl <;> exact pl_fmtQ _
theorem pl_stW (l : List (Int × Co)) : ∀ x ∈ stW l, Pl x := fun x hx => by
 unfold stW at hx
 obtain ⟨c, _, hx⟩ := List.mem_flatMap.1 hx
 simp only [List.mem_cons, List.mem_nil_iff, or_false] at hx
 rcases hx with rfl | rfl
 ·exact Pe _
 ·exact pl_colW _
theorem spread_all : ∀ x ∈ Kq, x ≠ [] ∧ x.all L5 = true := by decide +kernel
theorem look_all : ∀ x ∈ Mf, x ≠ [] ∧ x.all L5 = true := by decide +kernel
theorem kinds_all : ∀ x ∈ [Nj, Kp, Ku, Kn], x ≠ [] ∧ x.all L5 = true := by decide +kernel
theorem pl_kind {x : List UInt8} (h : x ∈ [Nj, Kp, Ku, Kn]) : Pl x := ⟨(kinds_all x h).1, fun b hb => List.all_eq_true.1 (kinds_all x h).2 b hb⟩
theorem pnW_pl {P : Pn} (hv : Lk P = true) : ∀ x ∈ Qe P, Pl x := by
 unfold Lk at hv
 rw [Bool.and_eq_true, Bool.and_eq_true, decide_eq_true_iff] at hv
 obtain ⟨hok, hz, hk⟩ := hv
 unfold kindOK at hk
 intro x hx
 unfold Qe at hx
 by_cases k1 : P.kind = 1
 ·rw [if_pos k1] at hx
  simp only [List.mem_cons, List.mem_nil_iff, or_false] at hx
  rcases hx with rfl | rfl
  ·exact pl_kind Zs
  ·exact pl_colW _
 by_cases k4 : P.kind = 4
 ·rw [if_neg k1, if_pos k4] at hx
  rw [if_neg k1, if_neg Zo, if_neg Zo, if_pos k4, Bool.and_eq_true, Bool.and_eq_true, Bool.and_eq_true, Bool.or_eq_true, decide_eq_true_iff, decide_eq_true_iff] at hk
  obtain ⟨hi, hs, hm, _⟩ := hk
  have hs2 : 0 ≤ P.spread ∧ P.spread < 4 := by
   rcases hs with hs | hs
   ·omega
   ·have := of_decide_eq_true (show decide _ = true from hs); omega
  unfold imOK at hi
  rw [Bool.and_eq_true, Bool.and_eq_true, decide_eq_true_iff] at hi
  have hsz := of_decide_eq_true (show decide _ = true from hi.1.1)
  have hne : P.im.px ≠ [] := fun h => by
   have h2 := hi.1.2
   rw [h] at h2
   have : 1 * 1 ≤ P.im.w * P.im.h := Int.mul_le_mul hsz.1 hsz.2.2.1 Zo Zo
   simp at h2; omega
  rcases List.mem_append.1 hx with hx | hx
  ·rcases List.mem_append.1 hx with hx | hx
   ·simp only [List.mem_cons, List.mem_nil_iff, or_false] at hx
    rcases hx with rfl | rfl | rfl
    ·exact pl_kind Zs
    ·exact pl_name spread_all (by show 0 ≤ P.spread - 0 ∧ P.spread - 0 < 4; omega)
    ·exact pl_name look_all (by show 0 ≤ P.samp - 1 ∧ P.samp - 1 < 2; omega)
   ·exact pl_affW _ x hx
  ·unfold imW at hx
   simp only [List.mem_cons, List.mem_nil_iff, or_false] at hx
   rcases hx with rfl | rfl | rfl
   ·exact Pe _
   ·exact Pe _
   ·refine pl_encL fun h => hne ?_
    have h2 := flat_len4 P.im.px
    rw [h] at h2
    exact List.length_eq_zero_iff.1 (by simp at h2; omega)
 have hspr : Qn P.spread = true → Pl (Me Kq 0 P.spread) := fun h => pl_name spread_all (by have := of_decide_eq_true (show decide (1 ≤ P.spread ∧ P.spread ≤ 3) = true from h); show 0 ≤ P.spread - 0 ∧ P.spread - 0 < 4; omega)
 rw [if_neg k1, if_neg k4] at hx
 by_cases k2 : P.kind = 2
 ·rw [if_pos k2] at hx
  rw [if_neg k1, if_pos k2, Bool.and_eq_true, Bool.and_eq_true, Bool.and_eq_true, Bool.and_eq_true] at hk
  rcases List.mem_append.1 hx with hx | hx
  ·rcases List.mem_append.1 hx with hx | hx
   ·simp only [List.mem_cons, List.mem_nil_iff, or_false] at hx
    rcases hx with rfl | rfl | rfl | rfl | rfl | rfl
    ·exact pl_kind Zs
    ·exact Pe _
    ·exact Pe _
    ·exact Pe _
    ·exact Pe _
    ·exact hspr hk.2.2.1.2
   ·exact pl_affW _ x hx
  ·exact pl_stW _ x hx
 by_cases k3 : P.kind = 3
 ·rw [if_neg k2] at hx
  rw [if_neg k1, if_neg k2, if_pos k3, Bool.and_eq_true, Bool.and_eq_true, Bool.and_eq_true, Bool.and_eq_true] at hk
  rcases List.mem_append.1 hx with hx | hx
  ·rcases List.mem_append.1 hx with hx | hx
   ·simp only [List.mem_cons, List.mem_nil_iff, or_false] at hx
    rcases hx with rfl | rfl | rfl | rfl | rfl
    ·exact pl_kind Zs
    ·exact Pe _
    ·exact Pe _
    ·exact Pe _
    ·exact hspr hk.2.2.1.2
   ·exact pl_affW _ x hx
  ·exact pl_stW _ x hx
 rw [if_neg k1, if_neg k2, if_neg k3, if_neg k4] at hk; cases hk
theorem map_quo : ∀ {l : WS}, (∀ x ∈ l, Pl x) → l.map M8 = l
 | [], _ => rfl
 | x :: l, h => by rw [List.map_cons, (h x Zs).quo, map_quo fun y hy => h y (by simp [hy])]
theorem join_pn_len {P : Pn} (hv : Lk P = true) (hpx : P.im.px.length ≤ 1000) : (M4 (Qe P)).length ≤ 9700 := by
 have h1 := pnW_sum hv
 have h2 := join_len 32 (Qe P)
 unfold M4
 rw [map_quo (pnW_pl hv)]
 omega
theorem ppO_fmt {P : Pn} (hv : Lk P = true) : ppO (M4 (Qe P)) = some P := by
 obtain ⟨h1, h2⟩ := unqAll_quo (Qe P)
 unfold ppO
 rw [words_join, h1, h2, rdPn_fmt hv]
 simp only [if_true]
 rw [hv]; rfl
theorem ppO_join {l : List UInt8} {P : Pn} (h : ppO l = some P) : Lk P = true ∧ M4 (Qe P) = l := by
 unfold ppO at h
 split at h
 ·rename_i hB
  split at h
  ·rename_i P' hr
   split at h
   ·rename_i hv
    injection h with h
    subst h
    exact ⟨hv, by rw [(rdPn_clean hr).2]; exact join_words hB⟩
   ·cases h
  ·cases h
 ·cases h
end Go.Proofs.YtncodmhgfkailaaGreatDoor
