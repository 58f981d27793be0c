/-
 Paints as text: the reference's words; paints that are the same.
-/
import Derived.Test.YtdeepdckmhpldaaGreatDoorPB
import Derived.Test.YtdeepdckmhpldaaGreatDoorTA
import Derived.Test.YtdeepdckmhpldaaGreatDoorYX
namespace Go.Proofs.YtdeepdckmhpldaaGreatDoor
set_option maxRecDepth 100000
set_option maxHeartbeats 8000000
set_option linter.unusedVariables false
set_option linter.unusedSimpArgs false
open Go.RowKit
section
open Go.RowKit
--ATNAMES
def Pr (t : TypeId) (p : Addr) (f : Nat) : Sem Next := Instr.fieldAt t (.pointer (some p)) f >>= fun v => pure (.value v)
theorem L5 {P : Program} {t : TypeId} {p : Addr} {f d : Nat} {w : World} (h : Ti P t f 0 0 = some ⟨.p 0 (0 + d), none⟩) : (Pr t p f).run P w = .ok (.value (.pointer (some (p.add d)))) w := by
 unfold Ti at h
 split at h
 ·rename_i fs hu
  split at h
  ·rename_i fd hf
   split at h
   ·rename_i n hn
    injection h with h
    injection h with h _
    injection h with _ h
    rw [Nat.zero_add, Nat.zero_add] at h
    have hrun : (Instr.fieldAt t (.pointer (some p)) f).run P w = .ok (.pointer (some (p.add fd.offset))) w := by
     simp only [Instr.fieldAt, Sem.run_bind, run_underlying hu, Result.andThen_ok, hf, Instr.sureAddr, Sem.run_pure, fieldPlace, Ln hn, Nat.add_one_ne_zero, if_false]
    simp only [Pr, Sem.run_bind, hrun, Result.andThen_ok, Sem.run_pure, h]
   ·cases h
  ·cases h
 ·cases h
section
variable {w : World} {A A2 : Option Addr} {n c : Nat} {l : List (Int × Co)} {px : List Co} {P : Pn} {q : PM} {K : Nat} {B : Bool} {k x y : Int} {m : Im} {co : Co} {g : Nat}
theorem le8 (a b : UInt8) : decide ((a.toNat : Int) ≤ (b.toNat : Int)) = decide (a ≤ b) := decide_eq_decide.2 ⟨fun h => UInt8.le_iff_toNat_le.2 Zo, fun h => by have := UInt8.le_iff_toNat_le.1 h; omega⟩
theorem rcvalid_v (hB : pxOK co = B) : Calls Tryz.prog 245 #[S5 co] w (K5 w (fun _ : Unit => .bool B) fun _ _ => True) := by
 unfold pxOK at hB
 refine K0.enter Tryz.func245 rfl ?_
 refine ZS 6 ?_
 by_cases h0 : co.1 ≤ co.2.2.2
 case neg =>
  refine ZT 8 (.bool (decide ((co.1.toNat : Int) ≤ (co.2.2.2.toNat : Int)))) (.bool false) (by rw [le8, decide_eq_false h0]) ?_
  refine ZV (.bool false) (fun w1 hw h => ⟨(), by rw [← hB, decide_eq_false (fun h => h0 h.1)], hw, fun _ _ _ => trivial⟩)
 refine K0.slot 8 (.bool (decide ((co.1.toNat : Int) ≤ (co.2.2.2.toNat : Int)))) (.bool true) Zk (by rw [le8, decide_eq_true h0]) ?_
 refine ZS 13 ?_
 by_cases h1 : co.2.1 ≤ co.2.2.2
 case neg =>
  refine ZT 15 (.bool (decide ((co.2.1.toNat : Int) ≤ (co.2.2.2.toNat : Int)))) (.bool false) (by rw [le8, decide_eq_false h1]) ?_
  refine ZV (.bool false) (fun w1 hw h => ⟨(), by rw [← hB, decide_eq_false (fun h => h1 h.2.1)], hw, fun _ _ _ => trivial⟩)
 refine K0.slot 15 (.bool (decide ((co.2.1.toNat : Int) ≤ (co.2.2.2.toNat : Int)))) (.bool true) Zk (by rw [le8, decide_eq_true h1]) ?_
 refine ZS 19 ?_
 by_cases h2 : co.2.2.1 ≤ co.2.2.2
 case neg =>
  refine ZT 21 (.bool (decide ((co.2.2.1.toNat : Int) ≤ (co.2.2.2.toNat : Int)))) (.bool false) (by rw [le8, decide_eq_false h2]) ?_
  refine ZV (.bool false) (fun w1 hw h => ⟨(), by rw [← hB, decide_eq_false (fun h => h2 h.2.2)], hw, fun _ _ _ => trivial⟩)
 refine ZT 21 (.bool (decide ((co.2.2.1.toNat : Int) ≤ (co.2.2.2.toNat : Int)))) (.bool true) (by rw [le8, decide_eq_true h2]) ?_
 exact ZX (.bool true) (by rw [← hB, decide_eq_true ⟨h0, h1, h2⟩])
theorem rimvalid_v {y : Option Addr × Nat} (hB : Uy m = B) (hp : Nw w y.1 m.px.length 4 Pu m.px) (hn : m.px.length ≤ 1000000000) : Calls Tryz.prog 199 #[imV m y] w (K5 w (fun _ : Unit => .bool B) fun _ _ => True) := by
 unfold Uy at hB
 refine K0.enter Tryz.func199 rfl ?_
 refine ZR ?_
 cases h1 : Vz m.w m.h
 ·rw [h1, Bool.false_and, Bool.false_and] at hB
  refine ZC (fun w1 hw h => size_v h1) fun u => ?_
  refine ZR ?_
  refine ZI true ?_
  exact ZX (.bool false) (by rw [← hB])
 have hsz := of_decide_eq_true (show decide _ = true from h1)
 have hww := Yf (x := m.w) (y := m.h) ⟨hsz.1, hsz.2.1⟩ ⟨hsz.2.2.1, hsz.2.2.2.1⟩
 rw [h1, Bool.true_and] at hB
 refine ZC (fun w1 hw h => size_v h1) fun u => ?_
 refine ZR ?_
 by_cases h4 : (m.px.length : Int) = m.w * m.h
 case neg =>
  refine ZJ (((m.px.length : Int) != IntKind.i64.wrap (m.w * m.h))) true (by rw [hww]; simpa using h4) ?_
  exact ZX (.bool false) (by rw [← hB, decide_eq_false h4]; rfl)
 rw [decide_eq_true h4, Bool.true_and] at hB
 refine ZJ (((m.px.length : Int) != IntKind.i64.wrap (m.w * m.h))) false (by rw [hww]; simpa using h4) ?_
 refine K0.loop (ι := {q : Nat // q ≤ m.px.length ∧ (m.px.take q).all pxOK = true}) 35 (fun q => ⟨[(1, .p 1 0), (3, .v (.int .i64 q.1))], [(1, [.v (.int .i64 m.w), .v (.int .i64 m.h), .v (.slice y.1 m.px.length y.2)])]⟩) (fun q u => True) (fun q => m.px.length - q.1) (⟨0, Nat.zero_le _, rfl⟩) Zk (fun _ => by kernel_rfl) ⟨Zk, Zk, Zk⟩ (fun u h => trivial) ?_
 rintro ⟨k, hk, hall⟩ gg
 have hk : k ≤ m.px.length := hk
 have hall : (m.px.take k).all pxOK = true := hall
 by_cases hlt : k < m.px.length
 case neg =>
  have hkn : m.px.length = k := by omega
  rw [List.take_of_length_le Zo] at hall
  refine ZR ?_
  refine ZJ (decide ((k : Int) < (m.px.length : Int))) false Zp ?_
  refine K0.leave Zk ?_
  refine ZR ?_
  exact ZX (.bool true) (by rw [← hB, hall])
 obtain ⟨x, hx⟩ : ∃ x, m.px[k]? = some x := ⟨_, List.getElem?_eq_getElem Zo⟩
 obtain ⟨ad, hA, hc⟩ := hp.2 k x hx
 refine ZR ?_
 refine ZJ (decide ((k : Int) < (m.px.length : Int))) true Zp ?_
 refine ZA (Ke 44 (.slice y.1 m.px.length y.2) k) (.pointer (some (ad.add (k * 4)))) (fun w1 hw h => px_idx hA hlt) ?_
 refine ZA (L7 204 (ad.add (k * 4))) (.agg (Pu x).toArray) (fun w1 hw h => px_ld fun j v hj => Ky hw (hc j v hj)) ?_
 cases hb : pxOK x
 ·
  refine ZC (fun w1 hw h => rcvalid_v (co := x) hb) fun u => ?_
  refine ZI true ?_
  refine K0.leave Zk ?_
  refine ZR ?_
  exact ZX (.bool false) (by rw [← hB, Vv hx hb])
 ·
  refine ZC (fun w1 hw h => rcvalid_v (co := x) hb) fun u => ?_
  refine ZI false ?_
  refine K0.slot 3 (.int .i64 (IntKind.i64.wrap ((k : Int) + 1))) (.int .i64 ((k + 1 : Nat) : Int)) Zk (by rw [Kc hlt Zo]) ?_
  refine K0.next (⟨k + 1, by show k + 1 ≤ m.px.length; omega, by rw [Si hx hall, hb]⟩) Zk (by show m.px.length - (k + 1) < m.px.length - k; omega) ⟨Zk, Zk, Zk⟩ (fun u h => trivial)
theorem Ym (hB : Mv l = B) (hp : Nw w A n 5 Zy l) (hn : n ≤ 1000000000) : Calls Tryz.prog 308 #[.slice A n c] w (K5 w (fun _ : Unit => .bool B) fun _ _ => True) := by
 have hpn := hp.1
 unfold Mv at hB
 obtain ⟨C, hC⟩ : ∃ C, C = Zx 0 l := ⟨_, rfl⟩
 rw [← hC] at hB
 refine K0.enter Tryz.func308 rfl ?_
 refine ZR ?_
 refine K0.loop (ι := {q : Nat × Int // q.1 ≤ n ∧ Zx q.2 (l.drop q.1) = C ∧ 0 ≤ q.2 ∧ (q.1 = 0 → q.2 = 0) ∧ (0 < q.1 → ∃ y, l[q.1 - 1]? = some y ∧ y.1 = q.2)}) 50 (fun q => ⟨[(0, .v (.slice A n c)), (3, .v (.int .i64 q.1.1))], []⟩) (fun q u => True) (fun q => n - q.1.1) (⟨(0, 0), Nat.zero_le _, hC.symm, Int.le_refl 0, fun _ => rfl, fun h => absurd h Zd⟩) Zk (fun _ => by kernel_rfl) ⟨Zk, Zk, Zk⟩ (fun u h => trivial) ?_
 rintro ⟨⟨k, a⟩, hk, hst, ha0, hk0, hkp⟩ gg
 have hk : k ≤ n := hk
 have hst : Zx a (l.drop k) = C := hst
 have ha0 : 0 ≤ a := ha0
 have hk0 : k = 0 → a = 0 := hk0
 have hkp : 0 < k → ∃ y, l[k - 1]? = some y ∧ y.1 = a := hkp
 by_cases hlt : k < n
 case neg =>
  obtain rfl : k = n := by omega
  rw [List.drop_eq_nil_of_le Zo] at hst
  have hst : true = C := hst
  rw [← hst, Bool.and_true] at hB
  by_cases h1 : 1 ≤ k
  case neg =>
   refine ZR ?_
   refine ZJ (decide ((k : Int) < (k : Int))) false Zs ?_
   refine K0.leave Zk ?_
   refine ZS 4 ?_
   refine ZT 45 (.bool (decide ((k : Int) ≥ 1))) (.bool false) (by rw [decide_eq_false Zo]) ?_
   exact ZX (.bool false) (by rw [← hB, decide_eq_false Zo])
  refine ZR ?_
  refine ZJ (decide ((k : Int) < (k : Int))) false Zs ?_
  refine K0.leave Zk ?_
  refine ZS 4 ?_
  refine ZT 45 (.bool (decide ((k : Int) ≥ 1))) (.bool true) (by rw [decide_eq_true Zo]) ?_
  exact ZX (.bool (decide ((k : Int) ≤ 16))) (by rw [← hB]; congr 2; exact decide_eq_decide.2 Zo)
 obtain ⟨x, hx⟩ : ∃ x, l[k]? = some x := ⟨_, List.getElem?_eq_getElem Zo⟩
 obtain ⟨ad, hA, hc⟩ := hp.2 k x hx
 have e : Zx a (l.drop k) = (decide (a ≤ x.1 ∧ x.1 ≤ 65536) && Zx x.1 (l.drop (k + 1))) := by rw [drop_get hx]; rfl
 rw [e] at hst
 have hld : ∀ w1 : World, Below w.heap.size w w1 → (L7 3 ((ad.add (k * 5)).add 0)).run Tryz.prog w1 = .ok (.value (.int .i64 x.1)) w1 := fun w1 hw => K9 Zk (Ky hw (hc 0 _ rfl))
 refine ZR ?_
 refine K0.condr (decide ((k : Int) < (n : Int))) true Zk Zp ?_
 refine ZS 2 ?_
 refine K0.askAt 2 (Ke 54 (.slice A n c) k) (.pointer (some (ad.add (k * 5)))) Zk (fun w1 hw h => Vc hA Zo) ?_
 refine ZS 3 ?_
 refine K0.askAt 3 (Pr 133 (ad.add (k * 5)) 0) (.pointer (some ((ad.add (k * 5)).add 0))) Zk (fun w1 hw h => L5 (d := 0) Zk) ?_
 refine ZS 4 ?_
 refine K0.askAt 4 (L7 3 ((ad.add (k * 5)).add 0)) (.int .i64 x.1) Zk (fun w1 hw h => hld w1 hw) ?_
 refine ZS 7 ?_
 by_cases h3 : x.1 < 0
 case pos =>
  rw [show decide (a ≤ x.1 ∧ x.1 ≤ 65536) = false from decide_eq_false Zo, Bool.false_and] at hst
  refine ZT 16 (.bool (decide (x.1 < 0))) (.bool true) (by rw [decide_eq_true h3]) ?_
  refine ZI true ?_
  refine K0.leave Zk ?_
  refine ZR ?_
  exact ZX (.bool false) (by rw [← hB, ← hst, Bool.and_false])
 refine K0.slot 16 (.bool (decide (x.1 < 0))) (.bool false) Zk (by rw [decide_eq_false h3]) ?_
 refine ZS 9 ?_
 refine K0.askAt 9 (Ke 54 (.slice A n c) k) (.pointer (some (ad.add (k * 5)))) Zk (fun w1 hw h => Vc hA Zo) ?_
 refine ZS 10 ?_
 refine K0.askAt 10 (Pr 133 (ad.add (k * 5)) 0) (.pointer (some ((ad.add (k * 5)).add 0))) Zk (fun w1 hw h => L5 (d := 0) Zk) ?_
 refine ZS 11 ?_
 refine K0.askAt 11 (L7 3 ((ad.add (k * 5)).add 0)) (.int .i64 x.1) Zk (fun w1 hw h => hld w1 hw) ?_
 refine ZS 15 ?_
 by_cases h4 : x.1 > 65536
 case pos =>
  rw [show decide (a ≤ x.1 ∧ x.1 ≤ 65536) = false from decide_eq_false Zo, Bool.false_and] at hst
  refine ZT 24 (.bool (decide (x.1 > 65536))) (.bool true) (by rw [decide_eq_true h4]) ?_
  refine ZI true ?_
  refine K0.leave Zk ?_
  refine ZR ?_
  exact ZX (.bool false) (by rw [← hB, ← hst, Bool.and_false])
 refine K0.slot 24 (.bool (decide (x.1 > 65536))) (.bool false) Zk (by rw [decide_eq_false h4]) ?_
 refine ZS 18 ?_
 by_cases hkz : k = 0
 case pos =>
  have haz := hk0 hkz
  rw [show decide (a ≤ x.1 ∧ x.1 ≤ 65536) = true from decide_eq_true Zo, Bool.true_and] at hst
  refine ZT 27 (.bool (decide ((k : Int) > 0))) (.bool false) (by rw [decide_eq_false Zo]) ?_
  refine ZI false ?_
  refine K0.slot 3 (.int .i64 (IntKind.i64.wrap ((k : Int) + 1))) (.int .i64 ((k + 1 : Nat) : Int)) Zk (by rw [Kc hlt Zo]) ?_
  refine K0.next (⟨(k + 1, x.1), by show k + 1 ≤ n; omega, hst, by show 0 ≤ x.1; omega, fun h => absurd h (Nat.succ_ne_zero k), fun _ => ⟨x, hx, rfl⟩⟩) Zk (by show n - (k + 1) < n - k; omega) ⟨Zk, Zk, Zk⟩ (fun u h => trivial)
 obtain ⟨y, hy, hya⟩ := hkp Zo
 obtain ⟨ad2, hA2, hc2⟩ := hp.2 (k - 1) y hy
 rw [hA] at hA2
 cases hA2
 have hld2 : ∀ w1 : World, Below w.heap.size w w1 → (L7 3 ((ad.add ((k - 1) * 5)).add 0)).run Tryz.prog w1 = .ok (.value (.int .i64 y.1)) w1 := fun w1 hw => K9 Zk (Ky hw (hc2 0 _ rfl))
 refine K0.slot 27 (.bool (decide ((k : Int) > 0))) (.bool true) Zk (by rw [decide_eq_true Zo]) ?_
 refine ZS 20 ?_
 refine K0.askAt 20 (Ke 54 (.slice A n c) k) (.pointer (some (ad.add (k * 5)))) Zk (fun w1 hw h => Vc hA Zo) ?_
 refine ZS 21 ?_
 refine K0.askAt 21 (Pr 133 (ad.add (k * 5)) 0) (.pointer (some ((ad.add (k * 5)).add 0))) Zk (fun w1 hw h => L5 (d := 0) Zk) ?_
 refine ZS 22 ?_
 refine K0.askAt 22 (L7 3 ((ad.add (k * 5)).add 0)) (.int .i64 x.1) Zk (fun w1 hw h => hld w1 hw) ?_
 refine ZS 26 ?_
 refine K0.slot 35 (.int .i64 (IntKind.i64.wrap ((k : Int) - 1))) (.int .i64 ((k - 1 : Nat) : Int)) Zk (by rw [IntWalk.i64_in _ Zo]; congr 1; omega) ?_
 refine K0.askAt 26 (Ke 54 (.slice A n c) ((k - 1 : Nat) : Int)) (.pointer (some (ad.add ((k - 1) * 5)))) Zk (fun w1 hw h => Vc hA Zo) ?_
 refine ZS 27 ?_
 refine K0.askAt 27 (Pr 133 (ad.add ((k - 1) * 5)) 0) (.pointer (some ((ad.add ((k - 1) * 5)).add 0))) Zk (fun w1 hw h => L5 (d := 0) Zk) ?_
 refine ZS 28 ?_
 refine ZB 28 (L7 3 ((ad.add ((k - 1) * 5)).add 0)) (.int .i64 y.1) (fun w1 hw h => hld2 w1 hw) ?_
 by_cases h5 : x.1 < y.1
 case pos =>
  rw [show decide (a ≤ x.1 ∧ x.1 ≤ 65536) = false from decide_eq_false Zo, Bool.false_and] at hst
  refine ZR ?_
  refine ZJ (decide (x.1 < y.1)) true (by simpa using h5) ?_
  refine K0.leave Zk ?_
  refine ZR ?_
  exact ZX (.bool false) (by rw [← hB, ← hst, Bool.and_false])
 rw [show decide (a ≤ x.1 ∧ x.1 ≤ 65536) = true from decide_eq_true Zo, Bool.true_and] at hst
 refine ZR ?_
 refine ZJ (decide (x.1 < y.1)) false (by simpa using h5) ?_
 refine K0.slot 3 (.int .i64 (IntKind.i64.wrap ((k : Int) + 1))) (.int .i64 ((k + 1 : Nat) : Int)) Zk (by rw [Kc hlt Zo]) ?_
 refine K0.next (⟨(k + 1, x.1), by show k + 1 ≤ n; omega, hst, by show 0 ≤ x.1; omega, fun h => absurd h (Nat.succ_ne_zero k), fun _ => ⟨x, hx, rfl⟩⟩) Zk (by show n - (k + 1) < n - k; omega) ⟨Zk, Zk, Zk⟩ (fun u h => trivial)
def img0 (P : Pn) : Bool := decide (P.im.w = 0 ∧ P.im.h = 0 ∧ P.im.px = [] ∧ P.samp = 0)
def ramp0 (P : Pn) : Bool := decide ((P.p0x = 0 ∧ P.p0y = 0) ∧ (P.p1x = 0 ∧ P.p1y = 0) ∧ P.rad = 0 ∧ P.stops = [])
theorem Un (hB : img0 P = B) : Calls Tryz.prog 306 #[pnV P q] w (K5 w (fun _ : Unit => .bool B) fun _ _ => True) := by
 unfold img0 at hB
 refine K0.enter Tryz.func306 rfl ?_
 refine ZS 5 ?_
 by_cases h0 : P.im.w = 0
 case neg =>
  refine ZT 7 (.bool (P.im.w == 0)) (.bool false) (by rw [beq_eq_false_iff_ne.2 h0]) ?_
  refine ZV (.bool false) (fun w1 hw h => ⟨(), by rw [← hB, decide_eq_false (fun h => h0 h.1)], hw, fun _ _ _ => trivial⟩)
 refine K0.slot 7 (.bool (P.im.w == 0)) (.bool true) Zk (by rw [beq_iff_eq.2 h0]) ?_
 refine ZS 11 ?_
 by_cases h1 : P.im.h = 0
 case neg =>
  refine ZT 13 (.bool (P.im.h == 0)) (.bool false) (by rw [beq_eq_false_iff_ne.2 h1]) ?_
  refine ZV (.bool false) (fun w1 hw h => ⟨(), by rw [← hB, decide_eq_false (fun h => h1 h.2.1)], hw, fun _ _ _ => trivial⟩)
 refine K0.slot 13 (.bool (P.im.h == 0)) (.bool true) Zk (by rw [beq_iff_eq.2 h1]) ?_
 refine ZS 18 ?_
 by_cases h2 : P.im.px = []
 case neg =>
  refine ZT 20 (.bool ((P.im.px.length : Int) == 0)) (.bool false) (by rw [beq_eq_false_iff_ne.2 (by rw [Ne, Int.ofNat_eq_zero, List.length_eq_zero_iff]; exact h2)]) ?_
  refine ZV (.bool false) (fun w1 hw h => ⟨(), by rw [← hB, decide_eq_false (fun h => h2 h.2.2.1)], hw, fun _ _ _ => trivial⟩)
 refine K0.slot 20 (.bool ((P.im.px.length : Int) == 0)) (.bool true) Zk (by rw [h2]; rfl) ?_
 refine ZS 22 ?_
 by_cases h3 : P.samp = 0
 case neg =>
  refine ZT 24 (.bool (P.samp == 0)) (.bool false) (by rw [beq_eq_false_iff_ne.2 h3]) ?_
  refine ZV (.bool false) (fun w1 hw h => ⟨(), by rw [← hB, decide_eq_false (fun h => h3 h.2.2.2)], hw, fun _ _ _ => trivial⟩)
 refine ZT 24 (.bool (P.samp == 0)) (.bool true) (by rw [beq_iff_eq.2 h3]) ?_
 refine ZR ?_
 exact ZX (.bool true) (by rw [← hB, decide_eq_true ⟨h0, h1, h2, h3⟩])
theorem rramp_v (hB : ramp0 P = B) : Calls Tryz.prog 305 #[pnV P q] w (K5 w (fun _ : Unit => .bool B) fun _ _ => True) := by
 unfold ramp0 at hB
 refine K0.enter Tryz.func305 rfl ?_
 refine ZS 3 ?_
 by_cases h0 : P.p0x = 0 ∧ P.p0y = 0
 case neg =>
  refine ZA (eqP 53 (.tmp 4) (.tmp 5) (pt P.p0x P.p0y) (pt 0 0)) (.bool false) (fun w1 hw h => Uc (decide_eq_false h0)) ?_
  refine ZR ?_
  refine ZV (.bool false) (fun w1 hw h => ⟨(), by rw [← hB, decide_eq_false (fun h => h0 h.1)], hw, fun _ _ _ => trivial⟩)
 refine K0.ask (eqP 53 (.tmp 4) (.tmp 5) (pt P.p0x P.p0y) (pt 0 0)) (.bool true) Zk (fun w1 hw h => Uc (decide_eq_true h0)) ?_
 refine ZS 8 ?_
 by_cases h1 : P.p1x = 0 ∧ P.p1y = 0
 case neg =>
  refine ZA (eqP 53 (.tmp 9) (.tmp 10) (pt P.p1x P.p1y) (pt 0 0)) (.bool false) (fun w1 hw h => Uc (decide_eq_false h1)) ?_
  refine ZR ?_
  refine ZV (.bool false) (fun w1 hw h => ⟨(), by rw [← hB, decide_eq_false (fun h => h1 h.2.1)], hw, fun _ _ _ => trivial⟩)
 refine K0.ask (eqP 53 (.tmp 9) (.tmp 10) (pt P.p1x P.p1y) (pt 0 0)) (.bool true) Zk (fun w1 hw h => Uc (decide_eq_true h1)) ?_
 refine ZS 16 ?_
 by_cases h2 : P.rad = 0
 case neg =>
  refine ZT 18 (.bool (P.rad == 0)) (.bool false) (by rw [beq_eq_false_iff_ne.2 h2]) ?_
  refine ZV (.bool false) (fun w1 hw h => ⟨(), by rw [← hB, decide_eq_false (fun h => h2 h.2.2.1)], hw, fun _ _ _ => trivial⟩)
 refine K0.slot 18 (.bool (P.rad == 0)) (.bool true) Zk (by rw [beq_iff_eq.2 h2]) ?_
 refine ZS 21 ?_
 by_cases h3 : P.stops = []
 case neg =>
  refine ZT 23 (.bool ((P.stops.length : Int) == 0)) (.bool false) (by rw [beq_eq_false_iff_ne.2 (by rw [Ne, Int.ofNat_eq_zero, List.length_eq_zero_iff]; exact h3)]) ?_
  refine ZV (.bool false) (fun w1 hw h => ⟨(), by rw [← hB, decide_eq_false (fun h => h3 h.2.2.2)], hw, fun _ _ _ => trivial⟩)
 refine ZT 23 (.bool ((P.stops.length : Int) == 0)) (.bool true) (by rw [h3]; rfl) ?_
 exact ZX (.bool true) (by rw [← hB, decide_eq_true ⟨h0, h1, h2, h3⟩])
theorem rzero_v {t : TV} {T : Zm} (hB : eqA T Qc = B) (ht : IsA t T K w) (hK : 2 ≤ K ∧ K ≤ 10000000) : Calls Tryz.prog 307 #[t.val] w (K5 w (fun _ : Unit => .bool B) fun _ _ => True) := by
 refine K0.enter Tryz.func307 rfl ?_
 refine ZR ?_
 refine ZC (fun w1 hw h => requalA_v hB (ht.below hw) (IsA.zero (w := w1)) hK) fun u => ?_
 exact ZW (.bool B)
theorem T1 (hB : Ri x = B) : Calls Tryz.prog 309 #[.int .i64 x] w (K5 w (fun _ : Unit => .bool B) fun _ _ => True) := by
 unfold Ri at hB
 refine K0.enter Tryz.func309 rfl ?_
 refine ZS 3 ?_
 by_cases h1 : 1 ≤ x
 case neg =>
  refine ZT 5 (.bool (decide (x ≥ 1))) (.bool false) (by rw [decide_eq_false Zo]) ?_
  exact ZX (.bool false) (by rw [← hB, decide_eq_false Zo])
 refine ZT 5 (.bool (decide (x ≥ 1))) (.bool true) (by rw [decide_eq_true Zo]) ?_
 exact ZX (.bool (decide (x ≤ 3))) (by rw [← hB]; congr 2; exact decide_eq_decide.2 Zo)
theorem rvecv {X Y : Int} (hB : L0 X Y = B) : Calls Tryz.prog 288 #[pt X Y] w (K5 w (fun _ : Unit => .bool B) fun _ _ => True) := by subst hB; exact rvalid_m
theorem samp2 {z : Int} (h : ¬ z = 1) : (z == 2) = decide (z = 1 ∨ z = 2) := by
 rw [Bool.eq_iff_iff, beq_iff_eq, decide_eq_true_iff]
 exact ⟨.inr, fun k => k.resolve_left h⟩
def hasB (P : Pn) : Bool :=
 if P.kind = 1 then ramp0 P && (img0 P && (decide (P.spread = 0) && eqA P.T Qc))
 else if P.kind = 2 then img0 P && (decide (P.co = co0) && (decide (P.rad = 0) && (L0 P.p0x P.p0y && (L0 P.p1x P.p1y && (Mv P.stops && Ri P.spread)))))
 else if P.kind = 3 then img0 P && (decide (P.co = co0) && (decide (P.p1x = 0 ∧ P.p1y = 0) && (L0 P.p0x P.p0y && (decide (1 ≤ P.rad) && (decide (P.rad ≤ 1048576) && (Mv P.stops && Ri P.spread))))))
 else if P.kind = 4 then ramp0 P && (decide (P.co = co0) && (Uy P.im && ((decide (P.spread = 0) || Ri P.spread) && decide (P.samp = 1 ∨ P.samp = 2))))
 else false
theorem has_v (hB : hasB P = B) (hp : PRd P q K w) (hK : 2 ≤ K ∧ K ≤ 10000000) (hl : P.im.px.length ≤ 1000000000) (hsl : P.stops.length ≤ 1000000000) : Calls Tryz.prog 299 #[pnV P q] w (K5 w (fun _ : Unit => .bool B) fun _ _ => True) := by
 unfold hasB at hB
 refine K0.enter Tryz.func299 rfl ?_
 refine ZR ?_
 by_cases k1 : P.kind = 1
 case pos =>
  rw [if_pos k1] at hB
  refine ZJ ((P.kind == 1)) true (beq_iff_eq.2 k1) ?_
  cases c1 : ramp0 P
  ·
   rw [c1, Bool.false_and] at hB
   refine ZC (fun w1 hw h => rramp_v (q := q) c1) fun u_c1 => ?_
   refine ZR ?_
   exact ZX (.bool false) (by rw [← hB])
  rw [c1, Bool.true_and] at hB
  refine ZC (fun w1 hw h => rramp_v (q := q) c1) fun u_c1 => ?_
  cases c2 : img0 P
  ·
   rw [c2, Bool.false_and] at hB
   refine ZC (fun w1 hw h => Un (q := q) c2) fun u_c2 => ?_
   refine ZR ?_
   exact ZX (.bool false) (by rw [← hB])
  rw [c2, Bool.true_and] at hB
  refine ZD 12 (fun w1 hw h => Un (q := q) c2) fun u_c2 => ?_
  by_cases c3 : P.spread = 0
  case neg =>
   rw [decide_eq_false c3, Bool.false_and] at hB
   refine ZT 18 (.bool (P.spread == 0)) (.bool false) (by rw [beq_eq_false_iff_ne.2 c3]) ?_
   exact ZX (.bool false) (by rw [← hB])
  rw [decide_eq_true c3, Bool.true_and] at hB
  refine ZT 18 (.bool (P.spread == 0)) (.bool true) (by rw [beq_iff_eq.2 c3]) ?_
  cases c4 : eqA P.T Qc
  ·
   rw [c4] at hB
   refine ZC (fun w1 hw h => rzero_v c4 (hp.tr.below hw) hK) fun u_c4 => ?_
   refine ZR ?_
   exact ZX (.bool false) (by rw [← hB])
  rw [c4] at hB
  refine ZC (fun w1 hw h => rzero_v c4 (hp.tr.below hw) hK) fun u_c4 => ?_
  refine ZR ?_
  exact ZX (.bool true) (by rw [← hB])
 refine ZJ ((P.kind == 1)) false (beq_eq_false_iff_ne.2 k1) ?_
 by_cases k2 : P.kind = 2
 case pos =>
  rw [if_neg k1, if_pos k2] at hB
  refine ZJ ((P.kind == 2)) true (beq_iff_eq.2 k2) ?_
  cases c1 : img0 P
  ·
   rw [c1, Bool.false_and] at hB
   refine ZC (fun w1 hw h => Un (q := q) c1) fun u_c1 => ?_
   refine ZR ?_
   exact ZX (.bool false) (by rw [← hB])
  rw [c1, Bool.true_and] at hB
  refine ZD 6 (fun w1 hw h => Un (q := q) c1) fun u_c1 => ?_
  by_cases c2 : P.co = co0
  case neg =>
   rw [decide_eq_false c2, Bool.false_and] at hB
   refine ZA (eqP 23 (.tmp 29) (.tmp 30) (S5 P.co) (S5 co0)) (.bool false) (fun w1 hw h => P9 (decide_eq_false c2)) ?_
   refine ZR ?_
   exact ZX (.bool false) (by rw [← hB])
  rw [decide_eq_true c2, Bool.true_and] at hB
  refine K0.ask (eqP 23 (.tmp 29) (.tmp 30) (S5 P.co) (S5 co0)) (.bool true) Zk (fun w1 hw h => P9 (decide_eq_true c2)) ?_
  refine ZS 14 ?_
  by_cases c3 : P.rad = 0
  case neg =>
   rw [decide_eq_false c3, Bool.false_and] at hB
   refine ZT 38 (.bool (P.rad == 0)) (.bool false) (by rw [beq_eq_false_iff_ne.2 c3]) ?_
   exact ZX (.bool false) (by rw [← hB])
  rw [decide_eq_true c3, Bool.true_and] at hB
  refine ZT 38 (.bool (P.rad == 0)) (.bool true) (by rw [beq_iff_eq.2 c3]) ?_
  cases c4 : L0 P.p0x P.p0y
  ·
   rw [c4, Bool.false_and] at hB
   refine ZC (fun w1 hw h => rvecv c4) fun u_c4 => ?_
   refine ZR ?_
   exact ZX (.bool false) (by rw [← hB])
  rw [c4, Bool.true_and] at hB
  refine ZC (fun w1 hw h => rvecv c4) fun u_c4 => ?_
  cases c5 : L0 P.p1x P.p1y
  ·
   rw [c5, Bool.false_and] at hB
   refine ZC (fun w1 hw h => rvecv c5) fun u_c5 => ?_
   refine ZR ?_
   exact ZX (.bool false) (by rw [← hB])
  rw [c5, Bool.true_and] at hB
  refine ZC (fun w1 hw h => rvecv c5) fun u_c5 => ?_
  cases c6 : Mv P.stops
  ·
   rw [c6, Bool.false_and] at hB
   refine ZC (fun w1 hw h => Ym (c := q.sc) c6 (hp.st.below hw) hsl) fun u_c6 => ?_
   refine ZR ?_
   exact ZX (.bool false) (by rw [← hB])
  rw [c6, Bool.true_and] at hB
  refine ZC (fun w1 hw h => Ym (c := q.sc) c6 (hp.st.below hw) hsl) fun u_c6 => ?_
  cases c7 : Ri P.spread
  ·
   rw [c7] at hB
   refine ZC (fun w1 hw h => T1 c7) fun u_c7 => ?_
   refine ZR ?_
   exact ZX (.bool false) (by rw [← hB])
  rw [c7] at hB
  refine ZC (fun w1 hw h => T1 c7) fun u_c7 => ?_
  refine ZR ?_
  exact ZX (.bool true) (by rw [← hB])
 refine ZJ ((P.kind == 2)) false (beq_eq_false_iff_ne.2 k2) ?_
 by_cases k3 : P.kind = 3
 case pos =>
  rw [if_neg k1, if_neg k2, if_pos k3] at hB
  refine ZJ ((P.kind == 3)) true (beq_iff_eq.2 k3) ?_
  cases c1 : img0 P
  ·
   rw [c1, Bool.false_and] at hB
   refine ZC (fun w1 hw h => Un (q := q) c1) fun u_c1 => ?_
   refine ZR ?_
   exact ZX (.bool false) (by rw [← hB])
  rw [c1, Bool.true_and] at hB
  refine ZD 6 (fun w1 hw h => Un (q := q) c1) fun u_c1 => ?_
  by_cases c2 : P.co = co0
  case neg =>
   rw [decide_eq_false c2, Bool.false_and] at hB
   refine ZA (eqP 23 (.tmp 64) (.tmp 65) (S5 P.co) (S5 co0)) (.bool false) (fun w1 hw h => P9 (decide_eq_false c2)) ?_
   refine ZR ?_
   exact ZX (.bool false) (by rw [← hB])
  rw [decide_eq_true c2, Bool.true_and] at hB
  refine K0.ask (eqP 23 (.tmp 64) (.tmp 65) (S5 P.co) (S5 co0)) (.bool true) Zk (fun w1 hw h => P9 (decide_eq_true c2)) ?_
  refine ZS 12 ?_
  by_cases c3 : P.p1x = 0 ∧ P.p1y = 0
  case neg =>
   rw [decide_eq_false c3, Bool.false_and] at hB
   refine ZA (eqP 53 (.tmp 70) (.tmp 71) (pt P.p1x P.p1y) (pt 0 0)) (.bool false) (fun w1 hw h => Uc (decide_eq_false c3)) ?_
   refine ZR ?_
   exact ZX (.bool false) (by rw [← hB])
  rw [decide_eq_true c3, Bool.true_and] at hB
  refine ZA (eqP 53 (.tmp 70) (.tmp 71) (pt P.p1x P.p1y) (pt 0 0)) (.bool true) (fun w1 hw h => Uc (decide_eq_true c3)) ?_
  cases c4 : L0 P.p0x P.p0y
  ·
   rw [c4, Bool.false_and] at hB
   refine ZC (fun w1 hw h => rvecv c4) fun u_c4 => ?_
   refine ZR ?_
   exact ZX (.bool false) (by rw [← hB])
  rw [c4, Bool.true_and] at hB
  refine ZD 25 (fun w1 hw h => rvecv c4) fun u_c4 => ?_
  by_cases c5 : 1 ≤ P.rad
  case neg =>
   rw [decide_eq_false c5, Bool.false_and] at hB
   refine ZT 84 (.bool (decide (P.rad ≥ 1))) (.bool false) (by rw [decide_eq_false c5]) ?_
   exact ZX (.bool false) (by rw [← hB])
  rw [decide_eq_true c5, Bool.true_and] at hB
  refine K0.slot 84 (.bool (decide (P.rad ≥ 1))) (.bool true) Zk (by rw [decide_eq_true c5]) ?_
  refine ZS 30 ?_
  by_cases c6 : P.rad ≤ 1048576
  case neg =>
   rw [decide_eq_false c6, Bool.false_and] at hB
   refine ZT 89 (.bool (decide (P.rad ≤ 1048576))) (.bool false) (by rw [decide_eq_false c6]) ?_
   exact ZX (.bool false) (by rw [← hB])
  rw [decide_eq_true c6, Bool.true_and] at hB
  refine ZT 89 (.bool (decide (P.rad ≤ 1048576))) (.bool true) (by rw [decide_eq_true c6]) ?_
  cases c7 : Mv P.stops
  ·
   rw [c7, Bool.false_and] at hB
   refine ZC (fun w1 hw h => Ym (c := q.sc) c7 (hp.st.below hw) hsl) fun u_c7 => ?_
   refine ZR ?_
   exact ZX (.bool false) (by rw [← hB])
  rw [c7, Bool.true_and] at hB
  refine ZC (fun w1 hw h => Ym (c := q.sc) c7 (hp.st.below hw) hsl) fun u_c7 => ?_
  cases c8 : Ri P.spread
  ·
   rw [c8] at hB
   refine ZC (fun w1 hw h => T1 c8) fun u_c8 => ?_
   refine ZR ?_
   exact ZX (.bool false) (by rw [← hB])
  rw [c8] at hB
  refine ZC (fun w1 hw h => T1 c8) fun u_c8 => ?_
  refine ZR ?_
  exact ZX (.bool true) (by rw [← hB])
 refine ZJ ((P.kind == 3)) false (beq_eq_false_iff_ne.2 k3) ?_
 by_cases k4 : P.kind = 4
 case pos =>
  rw [if_neg k1, if_neg k2, if_neg k3, if_pos k4] at hB
  refine ZJ ((P.kind == 4)) true (beq_iff_eq.2 k4) ?_
  cases c1 : ramp0 P
  ·
   rw [c1, Bool.false_and] at hB
   refine ZC (fun w1 hw h => rramp_v (q := q) c1) fun u_c1 => ?_
   refine ZR ?_
   exact ZX (.bool false) (by rw [← hB])
  rw [c1, Bool.true_and] at hB
  refine ZD 6 (fun w1 hw h => rramp_v (q := q) c1) fun u_c1 => ?_
  by_cases c2 : P.co = co0
  case neg =>
   rw [decide_eq_false c2, Bool.false_and] at hB
   refine ZA (eqP 23 (.tmp 105) (.tmp 106) (S5 P.co) (S5 co0)) (.bool false) (fun w1 hw h => P9 (decide_eq_false c2)) ?_
   refine ZR ?_
   exact ZX (.bool false) (by rw [← hB])
  rw [decide_eq_true c2, Bool.true_and] at hB
  refine ZA (eqP 23 (.tmp 105) (.tmp 106) (S5 P.co) (S5 co0)) (.bool true) (fun w1 hw h => P9 (decide_eq_true c2)) ?_
  cases c3 : Uy P.im
  ·
   rw [c3, Bool.false_and] at hB
   refine ZC (fun w1 hw h => rimvalid_v (y := (q.xA, q.xc)) c3 (hp.px.below hw) hl) fun u_c3 => ?_
   refine ZR ?_
   exact ZX (.bool false) (by rw [← hB])
  rw [c3, Bool.true_and] at hB
  refine ZD 18 (fun w1 hw h => rimvalid_v (y := (q.xA, q.xc)) c3 (hp.px.below hw) hl) fun u_c3 => ?_
  by_cases s0 : P.spread = 0
  case pos =>
   rw [decide_eq_true s0, Bool.true_or, Bool.true_and] at hB
   refine K0.slot 118 (.bool (P.spread == 0)) (.bool true) Zk (by rw [beq_iff_eq.2 s0]) ?_
   refine ZS 28 ?_
   by_cases m1 : P.samp = 1
   case pos =>
    rw [decide_eq_true (.inl m1)] at hB
    refine ZT 128 (.bool (P.samp == 1)) (.bool true) (by rw [beq_iff_eq.2 m1]) ?_
    exact ZX (.bool true) (by rw [← hB])
   refine ZT 128 (.bool (P.samp == 1)) (.bool false) (by rw [beq_eq_false_iff_ne.2 m1]) ?_
   exact ZX (.bool (P.samp == 2)) (by rw [← hB, samp2 m1])
  rw [decide_eq_false s0, Bool.false_or] at hB
  cases c5 : Ri P.spread
  ·
   rw [c5, Bool.false_and] at hB
   refine ZT 118 (.bool (P.spread == 0)) (.bool false) (by rw [beq_eq_false_iff_ne.2 s0]) ?_
   refine ZC (fun w1 hw h => T1 c5) fun u9 => ?_
   refine ZR ?_
   exact ZX (.bool false) (by rw [← hB])
  rw [c5, Bool.true_and] at hB
  refine ZT 118 (.bool (P.spread == 0)) (.bool false) (by rw [beq_eq_false_iff_ne.2 s0]) ?_
  refine ZD 28 (fun w1 hw h => T1 c5) fun u9 => ?_
  by_cases m1 : P.samp = 1
  case pos =>
   rw [decide_eq_true (.inl m1)] at hB
   refine ZT 128 (.bool (P.samp == 1)) (.bool true) (by rw [beq_iff_eq.2 m1]) ?_
   exact ZX (.bool true) (by rw [← hB])
  refine ZT 128 (.bool (P.samp == 1)) (.bool false) (by rw [beq_eq_false_iff_ne.2 m1]) ?_
  exact ZX (.bool (P.samp == 2)) (by rw [← hB, samp2 m1])
 rw [if_neg k1, if_neg k2, if_neg k3, if_neg k4] at hB
 refine ZJ ((P.kind == 4)) false (beq_eq_false_iff_ne.2 k4) ?_
 exact ZX (.bool false) (by rw [← hB])
end
end
section
open Go.RowKit
--ATNAMES
theorem valid_has (P : Pn) : Kt P = (P.T.ok && (hasB P && (decide (P.kind = 1) || decide (P.T.det ≠ 0)))) := by
 unfold Kt kindOK hasB ramp0 img0 Uy
 rw [Bool.eq_iff_iff]
 by_cases k1 : P.kind = 1
 ·simp [k1, S7, Zr, co0]
  grind
 by_cases k2 : P.kind = 2
 ·simp [k2, S7, Zr, co0]
  grind
 by_cases k3 : P.kind = 3
 ·simp [k3, S7, Zr, co0]
  grind
 by_cases k4 : P.kind = 4
 ·simp [k4, S7, Zr, co0, im0]
  grind
 simp [k1, k2, k3, k4]
section
variable {w : World} {A A2 : Option Addr} {n c : Nat} {l : List (Int × Co)} {px : List Co} {P : Pn} {q : PM} {K : Nat} {B : Bool} {x y : Int} {m : Im} {co : Co} {t : TV} {T : Zm}
theorem rpvalid_v (hB : Kt P = B) (hp : PRd P q K w) (hK : 2 ≤ K ∧ K ≤ 1000) (hl : P.im.px.length ≤ 1000000000) (hsl : P.stops.length ≤ 1000000000) : Calls Tryz.prog 282 #[pnV P q] w (K5 w (fun _ : Unit => .bool B) fun _ _ => True) := by
 rw [valid_has] at hB
 refine K0.enter Tryz.func282 rfl ?_
 refine ZR ?_
 cases h1 : P.T.ok
 ·rw [h1, Bool.false_and] at hB
  refine ZC (fun w1 hw h => rvalidA_v h1 (hp.tr.below hw) Zo) fun u => ?_
  refine ZI true ?_
  exact ZX (.bool false) (by rw [← hB])
 rw [h1, Bool.true_and] at hB
 refine ZC (fun w1 hw h => rvalidA_v h1 (hp.tr.below hw) Zo) fun u => ?_
 cases h2 : hasB P
 ·rw [h2, Bool.false_and] at hB
  refine ZC (fun w1 hw h => has_v h2 (hp.below hw) Zo hl hsl) fun u2 => ?_
  refine ZI true ?_
  exact ZX (.bool false) (by rw [← hB])
 rw [h2, Bool.true_and] at hB
 refine ZC (fun w1 hw h => has_v h2 (hp.below hw) Zo hl hsl) fun u2 => ?_
 refine K0.cond false Zk ?_
 refine ZS 4 ?_
 by_cases k1 : P.kind = 1
 case pos =>
  rw [decide_eq_true k1, Bool.true_or] at hB
  refine ZT 15 (.bool (P.kind == 1)) (.bool true) (by rw [beq_iff_eq.2 k1]) ?_
  exact ZX (.bool true) (by rw [← hB])
 rw [decide_eq_false k1, Bool.false_or] at hB
 refine ZT 15 (.bool (P.kind == 1)) (.bool false) (by rw [beq_eq_false_iff_ne.2 k1]) ?_
 refine ZC (fun w1 hw h => rdetA_m (hp.tr.below hw) Zo) fun d => ?_
 refine ZC (fun w1 hw h => Xn 0 w1 Zd Zd) fun z => ?_
 refine ZC (fun w1 hw h => rqcmp_m h.1.2.q h.2.q Zo) fun v => ?_
 exact ZX (.bool (Rc P.T.det ((0 : Int) : Rat) != 0)) (by rw [U0, ← hB])
theorem Mt (ht : IsA t T K w) (hK : 2 ≤ K ∧ K ≤ 1000) : Calls Tryz.prog 48 #[t.val] w (K5 w (fun y : Nat => .slice (some ⟨y, 0, none⟩) 6 6) fun y u => Kj u (some ⟨y, 0, none⟩) 6 (Lp T)) := by
 refine K0.enter Tryz.func48 rfl ?_
 refine ZR ?_
 refine ZC (fun w1 hw h => rnormA_m (ht.below hw) Zo) fun n => ?_
 refine ZC (fun w1 hw h => Rr (h.2.a.q) hK) fun u0 => ?_
 refine ZC (fun w1 hw h => Rr (h.1.2.b.q) hK) fun u1 => ?_
 refine ZC (fun w1 hw h => Rr (h.1.1.2.c.q) hK) fun u2 => ?_
 refine ZC (fun w1 hw h => Rr (h.1.1.1.2.d.q) hK) fun u3 => ?_
 refine ZC (fun w1 hw h => Rr (h.1.1.1.1.2.e.q) hK) fun u4 => ?_
 refine ZD 18 (fun w1 hw h => Rr (h.1.1.1.1.1.2.f.q) hK) fun u5 => ?_
 refine K0.make (Ks (64) 6 #[(0, K3 (Ki T.a)), (1, K3 (Ki T.b)), (2, K3 (Ki T.c)), (3, K3 (Ki T.d)), (4, K3 (Ki T.e)), (5, K3 (Ki T.f))]) (Kb 6) (Kp 9 #[K3 (Ki T.a), K3 (Ki T.b), K3 (Ki T.c), K3 (Ki T.d), K3 (Ki T.e), K3 (Ki T.f)]) Zk (fun w1 hw h => K8 Zk) (fun gb => ?_)
 refine ZR ?_
 refine ZV (.slice (some ⟨gb, 0, none⟩) 6 6) (fun w1 hw h => ⟨gb, rfl, hw, fun w'' k1 k2 => L3 (L := Lp T) (h w'' k1 k2).2 rfl⟩)
theorem U9 (h1 : -9223372036854775808 ≤ x ∧ x ≤ 9223372036854775807) (h2 : -9223372036854775808 ≤ y ∧ y ≤ 9223372036854775807) : Calls Tryz.prog 89 #[pt x y] w (K5 w (fun y : Nat => .slice (some ⟨y, 0, none⟩) 2 2) fun z u => Kj u (some ⟨z, 0, none⟩) 2 [K6 x, K6 y]) := by
 refine K0.enter Tryz.func89 rfl ?_
 refine ZR ?_
 refine ZC (fun w1 hw h => L6 (n := x) h1.1 h1.2) fun u0 => ?_
 refine ZD 6 (fun w1 hw h => L6 (n := y) h2.1 h2.2) fun u1 => ?_
 refine K0.make (Ks (64) 2 #[(0, K3 (K6 x)), (1, K3 (K6 y))]) (Kb 2) (Kp 9 #[K3 (K6 x), K3 (K6 y)]) Zk (fun w1 hw h => K8 Zk) (fun gb => ?_)
 refine ZR ?_
 refine ZV (.slice (some ⟨gb, 0, none⟩) 2 2) (fun w1 hw h => ⟨gb, rfl, hw, fun w'' k1 k2 => L3 (L := [K6 x, K6 y]) (h w'' k1 k2).2 rfl⟩)
theorem pixelField_m (hp : Nw w A n 4 Pu px) (hn : n ≤ 20000) : Calls Tryz.prog 144 #[.slice A n c] w (K5 w (fun _ : Unit => K3 (hexW px)) fun _ _ => True) := by
 have hpn := hp.1
 refine K0.enter Tryz.func144 rfl ?_
 refine ZR ?_
 refine K0.make (Ks 86 0 #[]) (Kb 0) (fun g u => K7 u w.heap.size 5 1 (some ⟨g, 0, none⟩) 0 0 []) Zk (fun w1 hw h => make_nil Zk hw.size) (fun y0 => ?_)
 refine ZR ?_
 refine K0.loop (ι := {q : Nat × (Option Addr × Nat) // q.1 ≤ n}) 37 (fun q => ⟨[(0, .v (.slice A n c)), (3, .v (.slice q.1.2.1 (4 * q.1.1) q.1.2.2)), (4, .v (.int .i64 q.1.1))], []⟩) (fun q u => K7 u w.heap.size 5 1 q.1.2.1 (4 * q.1.1) q.1.2.2 (bv ((px.take q.1.1).flatMap X6))) (fun q => n - q.1.1) (⟨(0, (some ⟨y0, 0, none⟩, 0)), Nat.zero_le _⟩) Zk (fun _ => by kernel_rfl) ⟨Zk, Zk, Zk⟩ (fun u h => h.2) ?_
 rintro ⟨⟨k, y⟩, hk⟩ gg
 have hk : k ≤ n := hk
 obtain ⟨p, hp'⟩ : ∃ p, p = (px.take k).flatMap X6 := ⟨_, rfl⟩
 by_cases hlt : k < n
 case neg =>
  obtain rfl : k = n := by omega
  have hfull : px.take k = px := List.take_of_length_le Zo
  refine ZR ?_
  refine ZJ (decide ((k : Int) < (k : Int))) false Zs ?_
  refine K0.leave Zk ?_
  refine ZR ?_
  refine ZC (fun w1 hw h => rencode_m (A := y.1) (n := 4 * k) (c := y.2) (bs := px.flatMap X6) (by have hl : 4 * k = (px.flatMap X6).length := (by rw [Yx, hpn]); have h2 : K7 w1 w.heap.size 5 1 y.1 (4 * k) y.2 (bv (px.flatMap X6)) := (by rw [← hfull]; exact h); rw [hl] at h2 ⊢; exact K7.bytes h2) Zo) fun u => ?_
  exact ZW (K3 (hexW px))
 obtain ⟨x, hx⟩ : ∃ x, px[k]? = some x := ⟨_, List.getElem?_eq_getElem Zo⟩
 obtain ⟨ad, hA, hc⟩ := hp.2 k x hx
 have hstep : (px.take (k + 1)).flatMap X6 = p ++ X6 x := by rw [List.take_add_one, hx, hp']; simp
 refine ZR ?_
 refine K0.condr (decide ((k : Int) < (n : Int))) true Zk Zp ?_
 refine ZS 3 ?_
 refine K0.askAt 3 (Ke 44 (.slice A n c) k) (.pointer (some (ad.add (k * 4)))) Zk (fun w1 hw h => px_idx hA hlt) ?_
 refine ZS 4 ?_
 refine K0.askAt 4 (Pr 204 (ad.add (k * 4)) 0) (.pointer (some ((ad.add (k * 4)).add 0))) Zk (fun w1 hw h => L5 (d := 0) Zk) ?_
 refine ZS 5 ?_
 refine K0.askAt 5 (L7 5 ((ad.add (k * 4)).add 0)) (.int .u8 (x.1.toNat : Int)) Zk (fun w1 hw h => K9 Zk (Ky hw (hc 0 _ rfl))) ?_
 refine ZS 8 ?_
 refine K0.askAt 8 (Ke 44 (.slice A n c) k) (.pointer (some (ad.add (k * 4)))) Zk (fun w1 hw h => px_idx hA hlt) ?_
 refine ZS 9 ?_
 refine K0.askAt 9 (Pr 204 (ad.add (k * 4)) 1) (.pointer (some ((ad.add (k * 4)).add 1))) Zk (fun w1 hw h => L5 (d := 1) Zk) ?_
 refine ZS 10 ?_
 refine K0.askAt 10 (L7 5 ((ad.add (k * 4)).add 1)) (.int .u8 (x.2.1.toNat : Int)) Zk (fun w1 hw h => K9 Zk (Ky hw (hc 1 _ rfl))) ?_
 refine ZS 13 ?_
 refine K0.askAt 13 (Ke 44 (.slice A n c) k) (.pointer (some (ad.add (k * 4)))) Zk (fun w1 hw h => px_idx hA hlt) ?_
 refine ZS 14 ?_
 refine K0.askAt 14 (Pr 204 (ad.add (k * 4)) 2) (.pointer (some ((ad.add (k * 4)).add 2))) Zk (fun w1 hw h => L5 (d := 2) Zk) ?_
 refine ZS 15 ?_
 refine K0.askAt 15 (L7 5 ((ad.add (k * 4)).add 2)) (.int .u8 (x.2.2.1.toNat : Int)) Zk (fun w1 hw h => K9 Zk (Ky hw (hc 2 _ rfl))) ?_
 refine ZS 18 ?_
 refine K0.askAt 18 (Ke 44 (.slice A n c) k) (.pointer (some (ad.add (k * 4)))) Zk (fun w1 hw h => px_idx hA hlt) ?_
 refine ZS 19 ?_
 refine K0.askAt 19 (Pr 204 (ad.add (k * 4)) 3) (.pointer (some ((ad.add (k * 4)).add 3))) Zk (fun w1 hw h => L5 (d := 3) Zk) ?_
 refine ZS 20 ?_
 refine K0.askAt 20 (L7 5 ((ad.add (k * 4)).add 3)) (.int .u8 (x.2.2.2.toNat : Int)) Zk (fun w1 hw h => K9 Zk (Ky hw (hc 3 _ rfl))) ?_
 refine ZS 21 ?_
 refine K0.make (Ks (86) 4 #[(0, .int .u8 (x.1.toNat : Int)), (1, .int .u8 (x.2.1.toNat : Int)), (2, .int .u8 (x.2.2.1.toNat : Int)), (3, .int .u8 (x.2.2.2.toNat : Int))]) (Kb 4) (Kp 5 (Pu x).toArray) Zk (fun w1 hw h => K8 Zk) (fun gb => ?_)
 refine ZS 22 ?_
 refine K0.mutAny (L := bl y.1) (val := fun (z : Option Addr × Nat) => .slice z.1 (4 * k + 4) z.2) (Φ' := fun (z : Option Addr × Nat) v => K7 v w.heap.size 5 1 z.1 (4 * k + 4) z.2 (bv (p ++ X6 x))) (G := fun (z : Option Addr × Nat) v => K7 v w.heap.size 5 1 z.1 (4 * k + 4) z.2 (bv (p ++ X6 x))) (Lh 86 86 (.slice y.1 (4 * k) y.2) (Kb 4 gb)) (fun w1 hw h => app_b4 (show K7 w1 w.heap.size 5 1 y.1 (4 * k) y.2 (bv p) from (by rw [hp']; exact h.1)) hw.size h.2 Zo) (fun w1 h => fun b hb => ⟨((show K7 w1 w.heap.size 5 1 y.1 (4 * k) y.2 (bv p) from (by rw [hp']; exact h.1)).lt b hb).1, ((show K7 w1 w.heap.size 5 1 y.1 (4 * k) y.2 (bv p) from (by rw [hp']; exact h.1)).blk b hb).2⟩) (fun z wa wb e1 e2 h hG => hG) Zk Zk (fun z => ?_)
 refine ZR ?_
 refine K0.slot 4 (.int .i64 (IntKind.i64.wrap ((k : Int) + 1))) (.int .i64 ((k + 1 : Nat) : Int)) Zk (by rw [Kc hlt Zo]) ?_
 refine K0.next (⟨(k + 1, z), by show k + 1 ≤ n; omega⟩) Zk (by show n - (k + 1) < n - k; omega) ⟨Zk, Zk, Zk⟩ (fun u h => (by show K7 u w.heap.size 5 1 z.1 (4 * (k + 1)) z.2 (bv ((px.take (k + 1)).flatMap X6)); rw [hstep, show 4 * (k + 1) = 4 * k + 4 by omega]; exact h))
theorem Ze {y : Option Addr × Nat} (hp : Nw w y.1 m.px.length 4 Pu m.px) (hn : m.px.length ≤ 20000) (h1 : -9223372036854775808 ≤ m.w ∧ m.w ≤ 9223372036854775807) (h2 : -9223372036854775808 ≤ m.h ∧ m.h ≤ 9223372036854775807) : Calls Tryz.prog 85 #[imV m y] w (K5 w (fun y : Nat => .slice (some ⟨y, 0, none⟩) 3 3) fun y u => Kj u (some ⟨y, 0, none⟩) 3 (Xy m)) := by
 refine K0.enter Tryz.func85 rfl ?_
 refine ZR ?_
 refine ZC (fun w1 hw h => L6 (n := m.w) h1.1 h1.2) fun u0 => ?_
 refine ZC (fun w1 hw h => L6 (n := m.h) h2.1 h2.2) fun u1 => ?_
 refine ZD 9 (fun w1 hw h => pixelField_m (c := y.2) (hp.below hw) hn) fun u2 => ?_
 refine K0.make (Ks (64) 3 #[(0, K3 (K6 m.w)), (1, K3 (K6 m.h)), (2, K3 (hexW m.px))]) (Kb 3) (Kp 9 #[K3 (K6 m.w), K3 (K6 m.h), K3 (hexW m.px)]) Zk (fun w1 hw h => K8 Zk) (fun gb => ?_)
 refine ZR ?_
 refine ZV (.slice (some ⟨gb, 0, none⟩) 3 3) (fun w1 hw h => ⟨gb, rfl, hw, fun w'' k1 k2 => L3 (L := Xy m) (h w'' k1 k2).2 rfl⟩)
theorem stopFields_m (hp : Nw w A n 5 Zy l) (hn : n ≤ 1000) (hr : ∀ x ∈ l, 0 ≤ x.1 ∧ x.1 ≤ 65536) : Calls Tryz.prog 91 #[.slice A n c] w (K5 w (fun y : Option Addr × Nat => .slice y.1 (2 * n) y.2) fun y u => Kj u y.1 (2 * n) (Tn l)) := by
 have hpn := hp.1
 refine K0.enter Tryz.func91 rfl ?_
 refine ZR ?_
 refine K0.make (Ks 64 0 #[]) (Kb 0) (fun g u => K7 u w.heap.size 9 1 (some ⟨g, 0, none⟩) 0 0 []) Zk (fun w1 hw h => make_nil Zk hw.size) (fun y0 => ?_)
 refine ZR ?_
 refine K0.loop (ι := {q : Nat × (Option Addr × Nat) // q.1 ≤ n}) 28 (fun q => ⟨[(0, .v (.slice A n c)), (3, .v (.slice q.1.2.1 (2 * q.1.1) q.1.2.2)), (4, .v (.int .i64 q.1.1))], []⟩) (fun q u => K7 u w.heap.size 9 1 q.1.2.1 (2 * q.1.1) q.1.2.2 (sv (Tn (l.take q.1.1)))) (fun q => n - q.1.1) (⟨(0, (some ⟨y0, 0, none⟩, 0)), Nat.zero_le _⟩) Zk (fun _ => by kernel_rfl) ⟨Zk, Zk, Zk⟩ (fun u h => h.2) ?_
 rintro ⟨⟨k, y⟩, hk⟩ gg
 have hk : k ≤ n := hk
 obtain ⟨p, hp'⟩ : ∃ p, p = Tn (l.take k) := ⟨_, rfl⟩
 by_cases hlt : k < n
 case neg =>
  obtain rfl : k = n := by omega
  have hfull : l.take k = l := List.take_of_length_le Zo
  refine ZR ?_
  refine ZJ (decide ((k : Int) < (k : Int))) false Zs ?_
  refine K0.leave Zk ?_
  refine ZR ?_
  refine ZV (.slice y.1 (2 * k) y.2) (fun w1 hw h => ⟨y, rfl, hw, fun w'' k1 k2 => by have t := (show K7 w'' w.heap.size 9 1 y.1 (2 * k) y.2 (sv (Tn (l.take k))) from h w'' k1 k2).strs; rw [hfull] at t; exact t⟩)
 obtain ⟨x, hx⟩ : ∃ x, l[k]? = some x := ⟨_, List.getElem?_eq_getElem Zo⟩
 obtain ⟨ad, hA, hc⟩ := hp.2 k x hx
 have hxr := hr x (List.mem_of_getElem? hx)
 have hstep : Tn (l.take (k + 1)) = p ++ [K6 x.1, Na x.2] := by rw [stW_snoc hx, hp']
 refine ZR ?_
 refine K0.condr (decide ((k : Int) < (n : Int))) true Zk Zp ?_
 refine ZS 3 ?_
 refine K0.askAt 3 (Ke 54 (.slice A n c) k) (.pointer (some (ad.add (k * 5)))) Zk (fun w1 hw h => Vc hA hlt) ?_
 refine ZS 4 ?_
 refine K0.askAt 4 (Pr 133 (ad.add (k * 5)) 0) (.pointer (some ((ad.add (k * 5)).add 0))) Zk (fun w1 hw h => L5 (d := 0) Zk) ?_
 refine ZS 5 ?_
 refine K0.askAt 5 (L7 3 ((ad.add (k * 5)).add 0)) (.int .i64 x.1) Zk (fun w1 hw h => K9 Zk (Ky hw (hc 0 _ rfl))) ?_
 refine ZS 9 ?_
 refine K0.askAt 9 (Ke 54 (.slice A n c) k) (.pointer (some (ad.add (k * 5)))) Zk (fun w1 hw h => Vc hA hlt) ?_
 refine ZS 10 ?_
 refine K0.askAt 10 (Pr 133 (ad.add (k * 5)) 1) (.pointer (some ((ad.add (k * 5)).add 1))) Zk (fun w1 hw h => L5 (d := 1) Zk) ?_
 refine ZS 11 ?_
 refine K0.askAt 11 (L7 23 ((ad.add (k * 5)).add 1)) (S5 x.2) Zk (fun w1 hw h => Yj (vs := Pu x.2) Zk Zk (fun j v hj => by rw [addadd]; have q := Ky hw (hc (1 + j) v (by rw [show Zy x = .int .i64 x.1 :: Pu x.2 from rfl, Nat.add_comm, List.getElem?_cons_succ]; exact hj)); exact q)) ?_
 refine ZS 12 ?_
 refine ZD 12 (fun w1 hw h => L6 (n := x.1) Zo Zo) fun v1 => ?_
 refine ZD 13 (fun w1 hw h => rfcolor_m (k := x.2)) fun v2 => ?_
 refine K0.make (Ks (64) 2 #[(0, K3 (K6 x.1)), (1, K3 (Na x.2))]) (Kb 2) (Kp 9 #[K3 (K6 x.1), K3 (Na x.2)]) Zk (fun w1 hw h => K8 Zk) (fun gb => ?_)
 refine ZS 14 ?_
 refine K0.mutAny (L := bl y.1) (val := fun (z : Option Addr × Nat) => .slice z.1 (2 * k + 2) z.2) (Φ' := fun (z : Option Addr × Nat) v => K7 v w.heap.size 9 1 z.1 (2 * k + 2) z.2 (sv (p ++ [K6 x.1, Na x.2]))) (G := fun (z : Option Addr × Nat) v => K7 v w.heap.size 9 1 z.1 (2 * k + 2) z.2 (sv (p ++ [K6 x.1, Na x.2]))) (Lh 64 64 (.slice y.1 (2 * k) y.2) (Kb 2 gb)) (fun w1 hw h => app_row2 (show K7 w1 w.heap.size 9 1 y.1 (2 * k) y.2 (sv p) from (by rw [hp']; exact h.1.1.1)) hw.size h.2 Zo) (fun w1 h => fun b hb => ⟨((show K7 w1 w.heap.size 9 1 y.1 (2 * k) y.2 (sv p) from (by rw [hp']; exact h.1.1.1)).lt b hb).1, ((show K7 w1 w.heap.size 9 1 y.1 (2 * k) y.2 (sv p) from (by rw [hp']; exact h.1.1.1)).blk b hb).2⟩) (fun z wa wb e1 e2 h hG => hG) Zk Zk (fun z => ?_)
 refine ZR ?_
 refine K0.slot 4 (.int .i64 (IntKind.i64.wrap ((k : Int) + 1))) (.int .i64 ((k + 1 : Nat) : Int)) Zk (by rw [Kc hlt Zo]) ?_
 refine K0.next (⟨(k + 1, z), by show k + 1 ≤ n; omega⟩) Zk (by show n - (k + 1) < n - k; omega) ⟨Zk, Zk, Zk⟩ (fun u h => (by show K7 u w.heap.size 9 1 z.1 (2 * (k + 1)) z.2 (sv (Tn (l.take (k + 1)))); rw [hstep, show 2 * (k + 1) = 2 * k + 2 by omega]; exact h))
end
end
section
open Go.RowKit
--ATNAMES
section
variable {w : World} {P : Pn} {q : PM} {K : Nat} {l : List UInt8}
theorem T0 {u : World} {y : Nat} {z : Int} (h : Kj u (some ⟨y, 0, none⟩) 4 Mp) (h1 : 0 ≤ z ∧ z < 0 + 4) : (Ke 64 (.slice (some ⟨y, 0, none⟩) 4 4) z).run Tryz.prog u = .ok (.value (.pointer (some ((⟨y, 0, none⟩ : Addr).add z.toNat)))) u ∧ u.cell? ((⟨y, 0, none⟩ : Addr).add z.toNat) = some (K3 (Kd Mp 0 z)) := by
 obtain ⟨k, rfl⟩ : ∃ k : Nat, z = (k : Int) := ⟨z.toNat, by omega⟩
 obtain ⟨s, hs⟩ : ∃ s, Mp[k]? = some s := ⟨_, List.getElem?_eq_getElem (show k < Mp.length by show k < 4; omega)⟩
 refine ⟨Kr (k := k) (elem := 9) Zk Zk Zo, ?_⟩
 obtain ⟨ad, q1, q2⟩ := h.2 k s hs
 cases q1
 have e : Kd Mp 0 (k : Int) = s := by unfold Kd; rw [show ((k : Int) - 0).toNat = k by omega, hs]; rfl
 rw [e]; exact q2
theorem look_at {u : World} {y : Nat} {z : Int} (h : Kj u (some ⟨y, 0, none⟩) 3 ([] :: P5)) (h1 : z = 1 ∨ z = 2) : (Ke 64 (.slice (some ⟨y, 0, none⟩) 3 3) z).run Tryz.prog u = .ok (.value (.pointer (some ((⟨y, 0, none⟩ : Addr).add z.toNat)))) u ∧ u.cell? ((⟨y, 0, none⟩ : Addr).add z.toNat) = some (K3 (Kd P5 1 z)) := by
 rcases h1 with rfl | rfl
 ·refine ⟨Kr (k := 1) (elem := 9) Zk Zk Zd, ?_⟩
  obtain ⟨ad, q1, q2⟩ := h.2 1 _ rfl
  cases q1
  exact q2
 ·refine ⟨Kr (k := 2) (elem := 9) Zk Zk Zd, ?_⟩
  obtain ⟨ad, q1, q2⟩ := h.2 2 _ rfl
  cases q1
  exact q2
theorem Za (hp : PRd P q K w) (hv : Kt P = true) (hK : 2 ≤ K ∧ K ≤ 1000) (hl : P.im.px.length ≤ 20000) : Calls Tryz.prog 51 #[pnV P q] w (K5 w (fun y : Option Addr × Nat => .slice y.1 (O1 P).length y.2) fun y u => Kj u y.1 (O1 P).length (O1 P)) := by
 unfold Kt at hv
 rw [Bool.and_eq_true, Bool.and_eq_true] at hv
 obtain ⟨hok, hz, hk⟩ := hv
 unfold kindOK at hk
 refine K0.enter Tryz.func51 rfl ?_
 refine ZR ?_
 refine K0.make (Ks 64 0 #[]) (Kb 0) (fun g u => K7 u w.heap.size 9 1 (some ⟨g, 0, none⟩) 0 0 []) Zk (fun w1 hw h => make_nil Zk hw.size) (fun y0 => ?_)
 refine ZR ?_
 by_cases k1 : P.kind = 1
 case pos =>
  have e : O1 P = [Qr, Na P.co] := by unfold O1; rw [if_pos k1]
  rw [e]
  refine ZJ ((P.kind == 1)) true (beq_iff_eq.2 k1) ?_
  refine ZD 3 (fun w1 hw h => rfcolor_m (k := P.co)) fun u => ?_
  refine K0.make (Ks (64) 2 #[(0, K3 Qr), (1, K3 (Na P.co))]) (Kb 2) (Kp 9 #[K3 Qr, K3 (Na P.co)]) Zk (fun w1 hw h => K8 Zk) (fun gb => ?_)
  refine ZR ?_
  refine ZV (.slice (some ⟨gb, 0, none⟩) 2 2) (fun w1 hw h => ⟨(some ⟨gb, 0, none⟩, 2), rfl, hw, fun w'' k1 k2 => L3 (L := [Qr, Na P.co]) (h w'' k1 k2).2 rfl⟩)
 refine ZJ ((P.kind == 1)) false (beq_eq_false_iff_ne.2 k1) ?_
 obtain ⟨x1, hx1⟩ : ∃ x, x = Kd Mp 0 P.spread := ⟨_, rfl⟩
 by_cases k2 : P.kind = 2
 case pos =>
  rw [if_neg k1, if_pos k2, Bool.and_eq_true, Bool.and_eq_true, Bool.and_eq_true] at hk
  obtain ⟨hp0, hp1, hst0, _⟩ := hk
  have hr0 := Ow hp0
  have hr1 := Ow hp1
  have hst2 := hst0
  rw [Bool.and_eq_true] at hst2
  have hs2 : 0 ≤ P.spread ∧ P.spread < 0 + 4 := by have := of_decide_eq_true (show decide (1 ≤ P.spread ∧ P.spread ≤ 3) = true from hst2.2); omega
  have hst1 := hst2.1
  unfold Mv at hst1
  rw [Bool.and_eq_true, decide_eq_true_iff] at hst1
  have hst := hst1.2
  have hst16 := hst1.1.2
  have hsr := Xh (Int.le_refl 0) hst
  have hsm := Vd P.stops
  refine K0.condr ((P.kind == 2)) true Zk (beq_iff_eq.2 k2) ?_
  refine ZS 1 ?_
  refine K0.make (Ks (64) 1 #[(0, K3 Kx)]) (Kb 1) (Kp 9 #[K3 Kx]) Zk (fun w1 hw h => K8 Zk) (fun ga => ?_)
  refine ZS 2 ?_
  refine K0.mutOp (L := bl ((some ⟨y0, 0, none⟩, 0) : Option Addr × Nat).1) (val := fun (z : Option Addr × Nat) => .slice z.1 (0 + 1) z.2) (Φ' := fun (z : Option Addr × Nat) v => K7 v w.heap.size 9 1 z.1 (0 + 1) z.2 (sv (([] : WS) ++ [Kx]))) (G := fun (z : Option Addr × Nat) v => K7 v w.heap.size 9 1 z.1 (0 + 1) z.2 (sv (([] : WS) ++ [Kx]))) (Lh 64 64 (.slice ((some ⟨y0, 0, none⟩, 0) : Option Addr × Nat).1 (0) ((some ⟨y0, 0, none⟩, 0) : Option Addr × Nat).2) (Kb 1 ga)) (fun w1 hw h => Me (p := ([] : WS)) (l := [Kx]) (show K7 w1 w.heap.size 9 1 ((some ⟨y0, 0, none⟩, 0) : Option Addr × Nat).1 (0) ((some ⟨y0, 0, none⟩, 0) : Option Addr × Nat).2 (sv (([] : WS))) from h.1.2) hw.size (L3 (L := [Kx]) h.2 rfl) Zd) (fun w1 h => fun b hb => ⟨((show K7 w1 w.heap.size 9 1 ((some ⟨y0, 0, none⟩, 0) : Option Addr × Nat).1 (0) ((some ⟨y0, 0, none⟩, 0) : Option Addr × Nat).2 (sv (([] : WS))) from h.1.2).lt b hb).1, ((show K7 w1 w.heap.size 9 1 ((some ⟨y0, 0, none⟩, 0) : Option Addr × Nat).1 (0) ((some ⟨y0, 0, none⟩, 0) : Option Addr × Nat).2 (sv (([] : WS))) from h.1.2).blk b hb).2⟩) (fun z wa wb e1 e2 h hG => hG) Zk Zk (fun y1 => ?_)
  refine ZR ?_
  refine ZD 4 (fun w1 hw h => U9 (x := P.p0x) (y := P.p0y) Zo Zo) fun p => ?_
  refine K0.mutOp (L := bl y1.1) (val := fun (z : Option Addr × Nat) => .slice z.1 (0 + 1 + 2) z.2) (Φ' := fun (z : Option Addr × Nat) v => K7 v w.heap.size 9 1 z.1 (0 + 1 + 2) z.2 (sv (([] : WS) ++ [Kx] ++ [K6 P.p0x, K6 P.p0y]))) (G := fun (z : Option Addr × Nat) v => K7 v w.heap.size 9 1 z.1 (0 + 1 + 2) z.2 (sv (([] : WS) ++ [Kx] ++ [K6 P.p0x, K6 P.p0y]))) (Lh 64 64 (.slice y1.1 (0 + 1) y1.2) (.slice (some ⟨p, 0, none⟩) 2 2)) (fun w1 hw h => Me (p := ([] : WS) ++ [Kx]) (l := [K6 P.p0x, K6 P.p0y]) (show K7 w1 w.heap.size 9 1 y1.1 (0 + 1) y1.2 (sv (([] : WS) ++ [Kx])) from h.1) hw.size h.2 Zd) (fun w1 h => fun b hb => ⟨((show K7 w1 w.heap.size 9 1 y1.1 (0 + 1) y1.2 (sv (([] : WS) ++ [Kx])) from h.1).lt b hb).1, ((show K7 w1 w.heap.size 9 1 y1.1 (0 + 1) y1.2 (sv (([] : WS) ++ [Kx])) from h.1).blk b hb).2⟩) (fun z wa wb e1 e2 h hG => hG) Zk Zk (fun y2 => ?_)
  refine ZR ?_
  refine ZD 4 (fun w1 hw h => U9 (x := P.p1x) (y := P.p1y) Zo Zo) fun p => ?_
  refine K0.mutOp (L := bl y2.1) (val := fun (z : Option Addr × Nat) => .slice z.1 (0 + 1 + 2 + 2) z.2) (Φ' := fun (z : Option Addr × Nat) v => K7 v w.heap.size 9 1 z.1 (0 + 1 + 2 + 2) z.2 (sv (([] : WS) ++ [Kx] ++ [K6 P.p0x, K6 P.p0y] ++ [K6 P.p1x, K6 P.p1y]))) (G := fun (z : Option Addr × Nat) v => K7 v w.heap.size 9 1 z.1 (0 + 1 + 2 + 2) z.2 (sv (([] : WS) ++ [Kx] ++ [K6 P.p0x, K6 P.p0y] ++ [K6 P.p1x, K6 P.p1y]))) (Lh 64 64 (.slice y2.1 (0 + 1 + 2) y2.2) (.slice (some ⟨p, 0, none⟩) 2 2)) (fun w1 hw h => Me (p := ([] : WS) ++ [Kx] ++ [K6 P.p0x, K6 P.p0y]) (l := [K6 P.p1x, K6 P.p1y]) (show K7 w1 w.heap.size 9 1 y2.1 (0 + 1 + 2) y2.2 (sv (([] : WS) ++ [Kx] ++ [K6 P.p0x, K6 P.p0y])) from h.1) hw.size h.2 Zd) (fun w1 h => fun b hb => ⟨((show K7 w1 w.heap.size 9 1 y2.1 (0 + 1 + 2) y2.2 (sv (([] : WS) ++ [Kx] ++ [K6 P.p0x, K6 P.p0y])) from h.1).lt b hb).1, ((show K7 w1 w.heap.size 9 1 y2.1 (0 + 1 + 2) y2.2 (sv (([] : WS) ++ [Kx] ++ [K6 P.p0x, K6 P.p0y])) from h.1).blk b hb).2⟩) (fun z wa wb e1 e2 h hG => hG) Zk Zk (fun y3 => ?_)
  refine ZR ?_
  refine ZD 4 (fun w1 hw h => spreads_m) fun sp => ?_
  refine K0.askAt 4 (Ke 64 (.slice (some ⟨sp, 0, none⟩) 4 4) P.spread) (.pointer (some ((⟨sp, 0, none⟩ : Addr).add P.spread.toNat))) Zk (fun w1 hw h => (T0 h.2 hs2).1) ?_
  refine ZS 5 ?_
  refine K0.askAt 5 (L7 9 ((⟨sp, 0, none⟩ : Addr).add P.spread.toNat)) (K3 x1) Zk (fun w1 hw h => K9 Zk (by rw [hx1]; exact (T0 h.2 hs2).2)) ?_
  refine ZS 6 ?_
  refine K0.make (Ks (64) 1 #[(0, K3 x1)]) (Kb 1) (Kp 9 #[K3 x1]) Zk (fun w1 hw h => K8 Zk) (fun gs => ?_)
  refine ZS 7 ?_
  refine K0.mutAny (L := bl y3.1) (val := fun (z : Option Addr × Nat) => .slice z.1 (0 + 1 + 2 + 2 + 1) z.2) (Φ' := fun (z : Option Addr × Nat) v => K7 v w.heap.size 9 1 z.1 (0 + 1 + 2 + 2 + 1) z.2 (sv (([] : WS) ++ [Kx] ++ [K6 P.p0x, K6 P.p0y] ++ [K6 P.p1x, K6 P.p1y] ++ [x1]))) (G := fun (z : Option Addr × Nat) v => K7 v w.heap.size 9 1 z.1 (0 + 1 + 2 + 2 + 1) z.2 (sv (([] : WS) ++ [Kx] ++ [K6 P.p0x, K6 P.p0y] ++ [K6 P.p1x, K6 P.p1y] ++ [x1]))) (Lh 64 64 (.slice y3.1 (0 + 1 + 2 + 2) y3.2) (Kb 1 gs)) (fun w1 hw h => Me (p := ([] : WS) ++ [Kx] ++ [K6 P.p0x, K6 P.p0y] ++ [K6 P.p1x, K6 P.p1y]) (l := [x1]) (show K7 w1 w.heap.size 9 1 y3.1 (0 + 1 + 2 + 2) y3.2 (sv (([] : WS) ++ [Kx] ++ [K6 P.p0x, K6 P.p0y] ++ [K6 P.p1x, K6 P.p1y])) from h.1.1) hw.size (L3 (L := [x1]) h.2 rfl) Zd) (fun w1 h => fun b hb => ⟨((show K7 w1 w.heap.size 9 1 y3.1 (0 + 1 + 2 + 2) y3.2 (sv (([] : WS) ++ [Kx] ++ [K6 P.p0x, K6 P.p0y] ++ [K6 P.p1x, K6 P.p1y])) from h.1.1).lt b hb).1, ((show K7 w1 w.heap.size 9 1 y3.1 (0 + 1 + 2 + 2) y3.2 (sv (([] : WS) ++ [Kx] ++ [K6 P.p0x, K6 P.p0y] ++ [K6 P.p1x, K6 P.p1y])) from h.1.1).blk b hb).2⟩) (fun z wa wb e1 e2 h hG => hG) Zk Zk (fun y4 => ?_)
  refine ZR ?_
  refine ZD 4 (fun w1 hw h => Mt (hp.tr.below hw) hK) fun t => ?_
  refine K0.mutOp (L := bl y4.1) (val := fun (z : Option Addr × Nat) => .slice z.1 (0 + 1 + 2 + 2 + 1 + 6) z.2) (Φ' := fun (z : Option Addr × Nat) v => K7 v w.heap.size 9 1 z.1 (0 + 1 + 2 + 2 + 1 + 6) z.2 (sv (([] : WS) ++ [Kx] ++ [K6 P.p0x, K6 P.p0y] ++ [K6 P.p1x, K6 P.p1y] ++ [x1] ++ Lp P.T))) (G := fun (z : Option Addr × Nat) v => K7 v w.heap.size 9 1 z.1 (0 + 1 + 2 + 2 + 1 + 6) z.2 (sv (([] : WS) ++ [Kx] ++ [K6 P.p0x, K6 P.p0y] ++ [K6 P.p1x, K6 P.p1y] ++ [x1] ++ Lp P.T))) (Lh 64 64 (.slice y4.1 (0 + 1 + 2 + 2 + 1) y4.2) (.slice (some ⟨t, 0, none⟩) 6 6)) (fun w1 hw h => Me (p := ([] : WS) ++ [Kx] ++ [K6 P.p0x, K6 P.p0y] ++ [K6 P.p1x, K6 P.p1y] ++ [x1]) (l := Lp P.T) (show K7 w1 w.heap.size 9 1 y4.1 (0 + 1 + 2 + 2 + 1) y4.2 (sv (([] : WS) ++ [Kx] ++ [K6 P.p0x, K6 P.p0y] ++ [K6 P.p1x, K6 P.p1y] ++ [x1])) from h.1) hw.size h.2 Zd) (fun w1 h => fun b hb => ⟨((show K7 w1 w.heap.size 9 1 y4.1 (0 + 1 + 2 + 2 + 1) y4.2 (sv (([] : WS) ++ [Kx] ++ [K6 P.p0x, K6 P.p0y] ++ [K6 P.p1x, K6 P.p1y] ++ [x1])) from h.1).lt b hb).1, ((show K7 w1 w.heap.size 9 1 y4.1 (0 + 1 + 2 + 2 + 1) y4.2 (sv (([] : WS) ++ [Kx] ++ [K6 P.p0x, K6 P.p0y] ++ [K6 P.p1x, K6 P.p1y] ++ [x1])) from h.1).blk b hb).2⟩) (fun z wa wb e1 e2 h hG => hG) Zk Zk (fun y5 => ?_)
  refine ZR ?_
  refine ZD 4 (fun w1 hw h => stopFields_m (c := q.sc) (hp.st.below hw) Zo hsr) fun s => ?_
  refine K0.mutOp (L := bl y5.1) (val := fun (z : Option Addr × Nat) => .slice z.1 (0 + 1 + 2 + 2 + 1 + 6 + 2 * P.stops.length) z.2) (Φ' := fun (z : Option Addr × Nat) v => K7 v w.heap.size 9 1 z.1 (0 + 1 + 2 + 2 + 1 + 6 + 2 * P.stops.length) z.2 (sv (([] : WS) ++ [Kx] ++ [K6 P.p0x, K6 P.p0y] ++ [K6 P.p1x, K6 P.p1y] ++ [x1] ++ Lp P.T ++ Tn P.stops))) (G := fun (z : Option Addr × Nat) v => K7 v w.heap.size 9 1 z.1 (0 + 1 + 2 + 2 + 1 + 6 + 2 * P.stops.length) z.2 (sv (([] : WS) ++ [Kx] ++ [K6 P.p0x, K6 P.p0y] ++ [K6 P.p1x, K6 P.p1y] ++ [x1] ++ Lp P.T ++ Tn P.stops))) (Lh 64 64 (.slice y5.1 (0 + 1 + 2 + 2 + 1 + 6) y5.2) (.slice s.1 (2 * P.stops.length) s.2)) (fun w1 hw h => Me (p := ([] : WS) ++ [Kx] ++ [K6 P.p0x, K6 P.p0y] ++ [K6 P.p1x, K6 P.p1y] ++ [x1] ++ Lp P.T) (l := Tn P.stops) (show K7 w1 w.heap.size 9 1 y5.1 (0 + 1 + 2 + 2 + 1 + 6) y5.2 (sv (([] : WS) ++ [Kx] ++ [K6 P.p0x, K6 P.p0y] ++ [K6 P.p1x, K6 P.p1y] ++ [x1] ++ Lp P.T)) from h.1) hw.size h.2 Zo) (fun w1 h => fun b hb => ⟨((show K7 w1 w.heap.size 9 1 y5.1 (0 + 1 + 2 + 2 + 1 + 6) y5.2 (sv (([] : WS) ++ [Kx] ++ [K6 P.p0x, K6 P.p0y] ++ [K6 P.p1x, K6 P.p1y] ++ [x1] ++ Lp P.T)) from h.1).lt b hb).1, ((show K7 w1 w.heap.size 9 1 y5.1 (0 + 1 + 2 + 2 + 1 + 6) y5.2 (sv (([] : WS) ++ [Kx] ++ [K6 P.p0x, K6 P.p0y] ++ [K6 P.p1x, K6 P.p1y] ++ [x1] ++ Lp P.T)) from h.1).blk b hb).2⟩) (fun z wa wb e1 e2 h hG => hG) Zk Zk (fun y6 => ?_)
  refine ZR ?_
  have e : O1 P = ([] : WS) ++ [Kx] ++ [K6 P.p0x, K6 P.p0y] ++ [K6 P.p1x, K6 P.p1y] ++ [x1] ++ Lp P.T ++ Tn P.stops := by unfold O1; rw [if_neg k1, if_neg (show ¬ P.kind = 4 by omega), if_pos k2, hx1]; simp
  have el : (O1 P).length = 0 + 1 + 2 + 2 + 1 + 6 + 2 * P.stops.length := by rw [e]; simp only [List.length_append, List.length_cons, List.length_nil, hsm]; show _ + 6 + _ = _; omega
  refine ZV (.slice y6.1 (0 + 1 + 2 + 2 + 1 + 6 + 2 * P.stops.length) y6.2) (fun w1 hw h => ⟨y6, by rw [el], hw, fun w'' k1 k2 => by rw [el, e]; exact (show K7 w'' w.heap.size 9 1 y6.1 (0 + 1 + 2 + 2 + 1 + 6 + 2 * P.stops.length) y6.2 (sv (([] : WS) ++ [Kx] ++ [K6 P.p0x, K6 P.p0y] ++ [K6 P.p1x, K6 P.p1y] ++ [x1] ++ Lp P.T ++ Tn P.stops)) from h w'' k1 k2).strs⟩)
 refine ZJ ((P.kind == 2)) false (beq_eq_false_iff_ne.2 k2) ?_
 by_cases k3 : P.kind = 3
 case pos =>
  rw [if_neg k1, if_neg k2, if_pos k3, Bool.and_eq_true, Bool.and_eq_true, Bool.and_eq_true, decide_eq_true_iff] at hk
  obtain ⟨hp0, hrad, hst0, _⟩ := hk
  have hr0 := Ow hp0
  have hst2 := hst0
  rw [Bool.and_eq_true] at hst2
  have hs2 : 0 ≤ P.spread ∧ P.spread < 0 + 4 := by have := of_decide_eq_true (show decide (1 ≤ P.spread ∧ P.spread ≤ 3) = true from hst2.2); omega
  have hst1 := hst2.1
  unfold Mv at hst1
  rw [Bool.and_eq_true, decide_eq_true_iff] at hst1
  have hst := hst1.2
  have hst16 := hst1.1.2
  have hsr := Xh (Int.le_refl 0) hst
  have hsm := Vd P.stops
  refine K0.condr ((P.kind == 3)) true Zk (beq_iff_eq.2 k3) ?_
  refine ZS 1 ?_
  refine K0.make (Ks (64) 1 #[(0, K3 L9)]) (Kb 1) (Kp 9 #[K3 L9]) Zk (fun w1 hw h => K8 Zk) (fun ga => ?_)
  refine ZS 2 ?_
  refine K0.mutOp (L := bl ((some ⟨y0, 0, none⟩, 0) : Option Addr × Nat).1) (val := fun (z : Option Addr × Nat) => .slice z.1 (0 + 1) z.2) (Φ' := fun (z : Option Addr × Nat) v => K7 v w.heap.size 9 1 z.1 (0 + 1) z.2 (sv (([] : WS) ++ [L9]))) (G := fun (z : Option Addr × Nat) v => K7 v w.heap.size 9 1 z.1 (0 + 1) z.2 (sv (([] : WS) ++ [L9]))) (Lh 64 64 (.slice ((some ⟨y0, 0, none⟩, 0) : Option Addr × Nat).1 (0) ((some ⟨y0, 0, none⟩, 0) : Option Addr × Nat).2) (Kb 1 ga)) (fun w1 hw h => Me (p := ([] : WS)) (l := [L9]) (show K7 w1 w.heap.size 9 1 ((some ⟨y0, 0, none⟩, 0) : Option Addr × Nat).1 (0) ((some ⟨y0, 0, none⟩, 0) : Option Addr × Nat).2 (sv (([] : WS))) from h.1.2) hw.size (L3 (L := [L9]) h.2 rfl) Zd) (fun w1 h => fun b hb => ⟨((show K7 w1 w.heap.size 9 1 ((some ⟨y0, 0, none⟩, 0) : Option Addr × Nat).1 (0) ((some ⟨y0, 0, none⟩, 0) : Option Addr × Nat).2 (sv (([] : WS))) from h.1.2).lt b hb).1, ((show K7 w1 w.heap.size 9 1 ((some ⟨y0, 0, none⟩, 0) : Option Addr × Nat).1 (0) ((some ⟨y0, 0, none⟩, 0) : Option Addr × Nat).2 (sv (([] : WS))) from h.1.2).blk b hb).2⟩) (fun z wa wb e1 e2 h hG => hG) Zk Zk (fun y1 => ?_)
  refine ZR ?_
  refine ZD 4 (fun w1 hw h => U9 (x := P.p0x) (y := P.p0y) Zo Zo) fun p => ?_
  refine K0.mutOp (L := bl y1.1) (val := fun (z : Option Addr × Nat) => .slice z.1 (0 + 1 + 2) z.2) (Φ' := fun (z : Option Addr × Nat) v => K7 v w.heap.size 9 1 z.1 (0 + 1 + 2) z.2 (sv (([] : WS) ++ [L9] ++ [K6 P.p0x, K6 P.p0y]))) (G := fun (z : Option Addr × Nat) v => K7 v w.heap.size 9 1 z.1 (0 + 1 + 2) z.2 (sv (([] : WS) ++ [L9] ++ [K6 P.p0x, K6 P.p0y]))) (Lh 64 64 (.slice y1.1 (0 + 1) y1.2) (.slice (some ⟨p, 0, none⟩) 2 2)) (fun w1 hw h => Me (p := ([] : WS) ++ [L9]) (l := [K6 P.p0x, K6 P.p0y]) (show K7 w1 w.heap.size 9 1 y1.1 (0 + 1) y1.2 (sv (([] : WS) ++ [L9])) from h.1) hw.size h.2 Zd) (fun w1 h => fun b hb => ⟨((show K7 w1 w.heap.size 9 1 y1.1 (0 + 1) y1.2 (sv (([] : WS) ++ [L9])) from h.1).lt b hb).1, ((show K7 w1 w.heap.size 9 1 y1.1 (0 + 1) y1.2 (sv (([] : WS) ++ [L9])) from h.1).blk b hb).2⟩) (fun z wa wb e1 e2 h hG => hG) Zk Zk (fun y2 => ?_)
  refine ZR ?_
  refine ZC (fun w1 hw h => L6 (n := P.rad) Zo Zo) fun f => ?_
  refine ZD 7 (fun w1 hw h => spreads_m) fun sp => ?_
  refine K0.askAt 7 (Ke 64 (.slice (some ⟨sp, 0, none⟩) 4 4) P.spread) (.pointer (some ((⟨sp, 0, none⟩ : Addr).add P.spread.toNat))) Zk (fun w1 hw h => (T0 h.2 hs2).1) ?_
  refine ZS 8 ?_
  refine K0.askAt 8 (L7 9 ((⟨sp, 0, none⟩ : Addr).add P.spread.toNat)) (K3 x1) Zk (fun w1 hw h => K9 Zk (by rw [hx1]; exact (T0 h.2 hs2).2)) ?_
  refine ZS 9 ?_
  refine K0.make (Ks (64) 2 #[(0, K3 (K6 P.rad)), (1, K3 x1)]) (Kb 2) (Kp 9 #[K3 (K6 P.rad), K3 x1]) Zk (fun w1 hw h => K8 Zk) (fun gs => ?_)
  refine ZS 10 ?_
  refine K0.mutAny (L := bl y2.1) (val := fun (z : Option Addr × Nat) => .slice z.1 (0 + 1 + 2 + 2) z.2) (Φ' := fun (z : Option Addr × Nat) v => K7 v w.heap.size 9 1 z.1 (0 + 1 + 2 + 2) z.2 (sv (([] : WS) ++ [L9] ++ [K6 P.p0x, K6 P.p0y] ++ [K6 P.rad, x1]))) (G := fun (z : Option Addr × Nat) v => K7 v w.heap.size 9 1 z.1 (0 + 1 + 2 + 2) z.2 (sv (([] : WS) ++ [L9] ++ [K6 P.p0x, K6 P.p0y] ++ [K6 P.rad, x1]))) (Lh 64 64 (.slice y2.1 (0 + 1 + 2) y2.2) (Kb 2 gs)) (fun w1 hw h => Me (p := ([] : WS) ++ [L9] ++ [K6 P.p0x, K6 P.p0y]) (l := [K6 P.rad, x1]) (show K7 w1 w.heap.size 9 1 y2.1 (0 + 1 + 2) y2.2 (sv (([] : WS) ++ [L9] ++ [K6 P.p0x, K6 P.p0y])) from h.1.1.1) hw.size (L3 (L := [K6 P.rad, x1]) h.2 rfl) Zd) (fun w1 h => fun b hb => ⟨((show K7 w1 w.heap.size 9 1 y2.1 (0 + 1 + 2) y2.2 (sv (([] : WS) ++ [L9] ++ [K6 P.p0x, K6 P.p0y])) from h.1.1.1).lt b hb).1, ((show K7 w1 w.heap.size 9 1 y2.1 (0 + 1 + 2) y2.2 (sv (([] : WS) ++ [L9] ++ [K6 P.p0x, K6 P.p0y])) from h.1.1.1).blk b hb).2⟩) (fun z wa wb e1 e2 h hG => hG) Zk Zk (fun y4 => ?_)
  refine ZR ?_
  refine ZD 4 (fun w1 hw h => Mt (hp.tr.below hw) hK) fun t => ?_
  refine K0.mutOp (L := bl y4.1) (val := fun (z : Option Addr × Nat) => .slice z.1 (0 + 1 + 2 + 2 + 6) z.2) (Φ' := fun (z : Option Addr × Nat) v => K7 v w.heap.size 9 1 z.1 (0 + 1 + 2 + 2 + 6) z.2 (sv (([] : WS) ++ [L9] ++ [K6 P.p0x, K6 P.p0y] ++ [K6 P.rad, x1] ++ Lp P.T))) (G := fun (z : Option Addr × Nat) v => K7 v w.heap.size 9 1 z.1 (0 + 1 + 2 + 2 + 6) z.2 (sv (([] : WS) ++ [L9] ++ [K6 P.p0x, K6 P.p0y] ++ [K6 P.rad, x1] ++ Lp P.T))) (Lh 64 64 (.slice y4.1 (0 + 1 + 2 + 2) y4.2) (.slice (some ⟨t, 0, none⟩) 6 6)) (fun w1 hw h => Me (p := ([] : WS) ++ [L9] ++ [K6 P.p0x, K6 P.p0y] ++ [K6 P.rad, x1]) (l := Lp P.T) (show K7 w1 w.heap.size 9 1 y4.1 (0 + 1 + 2 + 2) y4.2 (sv (([] : WS) ++ [L9] ++ [K6 P.p0x, K6 P.p0y] ++ [K6 P.rad, x1])) from h.1) hw.size h.2 Zd) (fun w1 h => fun b hb => ⟨((show K7 w1 w.heap.size 9 1 y4.1 (0 + 1 + 2 + 2) y4.2 (sv (([] : WS) ++ [L9] ++ [K6 P.p0x, K6 P.p0y] ++ [K6 P.rad, x1])) from h.1).lt b hb).1, ((show K7 w1 w.heap.size 9 1 y4.1 (0 + 1 + 2 + 2) y4.2 (sv (([] : WS) ++ [L9] ++ [K6 P.p0x, K6 P.p0y] ++ [K6 P.rad, x1])) from h.1).blk b hb).2⟩) (fun z wa wb e1 e2 h hG => hG) Zk Zk (fun y5 => ?_)
  refine ZR ?_
  refine ZD 4 (fun w1 hw h => stopFields_m (c := q.sc) (hp.st.below hw) Zo hsr) fun s => ?_
  refine K0.mutOp (L := bl y5.1) (val := fun (z : Option Addr × Nat) => .slice z.1 (0 + 1 + 2 + 2 + 6 + 2 * P.stops.length) z.2) (Φ' := fun (z : Option Addr × Nat) v => K7 v w.heap.size 9 1 z.1 (0 + 1 + 2 + 2 + 6 + 2 * P.stops.length) z.2 (sv (([] : WS) ++ [L9] ++ [K6 P.p0x, K6 P.p0y] ++ [K6 P.rad, x1] ++ Lp P.T ++ Tn P.stops))) (G := fun (z : Option Addr × Nat) v => K7 v w.heap.size 9 1 z.1 (0 + 1 + 2 + 2 + 6 + 2 * P.stops.length) z.2 (sv (([] : WS) ++ [L9] ++ [K6 P.p0x, K6 P.p0y] ++ [K6 P.rad, x1] ++ Lp P.T ++ Tn P.stops))) (Lh 64 64 (.slice y5.1 (0 + 1 + 2 + 2 + 6) y5.2) (.slice s.1 (2 * P.stops.length) s.2)) (fun w1 hw h => Me (p := ([] : WS) ++ [L9] ++ [K6 P.p0x, K6 P.p0y] ++ [K6 P.rad, x1] ++ Lp P.T) (l := Tn P.stops) (show K7 w1 w.heap.size 9 1 y5.1 (0 + 1 + 2 + 2 + 6) y5.2 (sv (([] : WS) ++ [L9] ++ [K6 P.p0x, K6 P.p0y] ++ [K6 P.rad, x1] ++ Lp P.T)) from h.1) hw.size h.2 Zo) (fun w1 h => fun b hb => ⟨((show K7 w1 w.heap.size 9 1 y5.1 (0 + 1 + 2 + 2 + 6) y5.2 (sv (([] : WS) ++ [L9] ++ [K6 P.p0x, K6 P.p0y] ++ [K6 P.rad, x1] ++ Lp P.T)) from h.1).lt b hb).1, ((show K7 w1 w.heap.size 9 1 y5.1 (0 + 1 + 2 + 2 + 6) y5.2 (sv (([] : WS) ++ [L9] ++ [K6 P.p0x, K6 P.p0y] ++ [K6 P.rad, x1] ++ Lp P.T)) from h.1).blk b hb).2⟩) (fun z wa wb e1 e2 h hG => hG) Zk Zk (fun y6 => ?_)
  refine ZR ?_
  have e : O1 P = ([] : WS) ++ [L9] ++ [K6 P.p0x, K6 P.p0y] ++ [K6 P.rad, x1] ++ Lp P.T ++ Tn P.stops := by unfold O1; rw [if_neg k1, if_neg (show ¬ P.kind = 4 by omega), if_neg k2, hx1]; simp
  have el : (O1 P).length = 0 + 1 + 2 + 2 + 6 + 2 * P.stops.length := by rw [e]; simp only [List.length_append, List.length_cons, List.length_nil, hsm]; show _ + 6 + _ = _; omega
  refine ZV (.slice y6.1 (0 + 1 + 2 + 2 + 6 + 2 * P.stops.length) y6.2) (fun w1 hw h => ⟨y6, by rw [el], hw, fun w'' k1 k2 => by rw [el, e]; exact (show K7 w'' w.heap.size 9 1 y6.1 (0 + 1 + 2 + 2 + 6 + 2 * P.stops.length) y6.2 (sv (([] : WS) ++ [L9] ++ [K6 P.p0x, K6 P.p0y] ++ [K6 P.rad, x1] ++ Lp P.T ++ Tn P.stops)) from h w'' k1 k2).strs⟩)
 refine ZJ ((P.kind == 3)) false (beq_eq_false_iff_ne.2 k3) ?_
 by_cases k4 : P.kind = 4
 case neg => rw [if_neg k1, if_neg k2, if_neg k3, if_neg k4] at hk; cases hk
 rw [if_neg k1, if_neg k2, if_neg k3, if_pos k4, Bool.and_eq_true, Bool.and_eq_true, Bool.and_eq_true, Bool.or_eq_true, decide_eq_true_iff, decide_eq_true_iff] at hk
 obtain ⟨hi, hs, hm, _⟩ := hk
 have hs2 : 0 ≤ P.spread ∧ P.spread < 0 + 4 := by
  rcases hs with hs | hs
  ·omega
  ·have := of_decide_eq_true hs; omega
 unfold Uy at hi
 rw [Bool.and_eq_true, Bool.and_eq_true] at hi
 have hsz := of_decide_eq_true hi.1.1
 obtain ⟨x2, hx2⟩ : ∃ x, x = Kd P5 1 P.samp := ⟨_, rfl⟩
 refine ZD 4 (fun w1 hw h => spreads_m) fun sp => ?_
 refine K0.askAt 4 (Ke 64 (.slice (some ⟨sp, 0, none⟩) 4 4) P.spread) (.pointer (some ((⟨sp, 0, none⟩ : Addr).add P.spread.toNat))) Zk (fun w1 hw h => (T0 h.2 hs2).1) ?_
 refine ZS 5 ?_
 refine K0.askAt 5 (L7 9 ((⟨sp, 0, none⟩ : Addr).add P.spread.toNat)) (K3 x1) Zk (fun w1 hw h => K9 Zk (by rw [hx1]; exact (T0 h.2 hs2).2)) ?_
 refine ZS 9 ?_
 refine ZD 9 (fun w1 hw h => samplings_m) fun lk => ?_
 refine K0.askAt 9 (Ke 64 (.slice (some ⟨lk, 0, none⟩) 3 3) P.samp) (.pointer (some ((⟨lk, 0, none⟩ : Addr).add P.samp.toNat))) Zk (fun w1 hw h => (look_at h.2 hm).1) ?_
 refine ZS 10 ?_
 refine K0.askAt 10 (L7 9 ((⟨lk, 0, none⟩ : Addr).add P.samp.toNat)) (K3 x2) Zk (fun w1 hw h => K9 Zk (by rw [hx2]; exact (look_at h.2 hm).2)) ?_
 refine ZS 11 ?_
 refine K0.make (Ks (64) 3 #[(0, K3 Kw), (1, K3 x1), (2, K3 x2)]) (Kb 3) (Kp 9 #[K3 Kw, K3 x1, K3 x2]) Zk (fun w1 hw h => K8 Zk) (fun gs => ?_)
 refine ZS 12 ?_
 refine K0.mutAny (L := bl ((some ⟨y0, 0, none⟩, 0) : Option Addr × Nat).1) (val := fun (z : Option Addr × Nat) => .slice z.1 (0 + 3) z.2) (Φ' := fun (z : Option Addr × Nat) v => K7 v w.heap.size 9 1 z.1 (0 + 3) z.2 (sv (([] : WS) ++ [Kw, x1, x2]))) (G := fun (z : Option Addr × Nat) v => K7 v w.heap.size 9 1 z.1 (0 + 3) z.2 (sv (([] : WS) ++ [Kw, x1, x2]))) (Lh 64 64 (.slice ((some ⟨y0, 0, none⟩, 0) : Option Addr × Nat).1 (0) ((some ⟨y0, 0, none⟩, 0) : Option Addr × Nat).2) (Kb 3 gs)) (fun w1 hw h => Me (p := ([] : WS)) (l := [Kw, x1, x2]) (show K7 w1 w.heap.size 9 1 ((some ⟨y0, 0, none⟩, 0) : Option Addr × Nat).1 (0) ((some ⟨y0, 0, none⟩, 0) : Option Addr × Nat).2 (sv (([] : WS))) from h.1.1.1.2) hw.size (L3 (L := [Kw, x1, x2]) h.2 rfl) Zd) (fun w1 h => fun b hb => ⟨((show K7 w1 w.heap.size 9 1 ((some ⟨y0, 0, none⟩, 0) : Option Addr × Nat).1 (0) ((some ⟨y0, 0, none⟩, 0) : Option Addr × Nat).2 (sv (([] : WS))) from h.1.1.1.2).lt b hb).1, ((show K7 w1 w.heap.size 9 1 ((some ⟨y0, 0, none⟩, 0) : Option Addr × Nat).1 (0) ((some ⟨y0, 0, none⟩, 0) : Option Addr × Nat).2 (sv (([] : WS))) from h.1.1.1.2).blk b hb).2⟩) (fun z wa wb e1 e2 h hG => hG) Zk Zk (fun y4 => ?_)
 refine ZR ?_
 refine ZD 4 (fun w1 hw h => Mt (hp.tr.below hw) hK) fun t => ?_
 refine K0.mutOp (L := bl y4.1) (val := fun (z : Option Addr × Nat) => .slice z.1 (0 + 3 + 6) z.2) (Φ' := fun (z : Option Addr × Nat) v => K7 v w.heap.size 9 1 z.1 (0 + 3 + 6) z.2 (sv (([] : WS) ++ [Kw, x1, x2] ++ Lp P.T))) (G := fun (z : Option Addr × Nat) v => K7 v w.heap.size 9 1 z.1 (0 + 3 + 6) z.2 (sv (([] : WS) ++ [Kw, x1, x2] ++ Lp P.T))) (Lh 64 64 (.slice y4.1 (0 + 3) y4.2) (.slice (some ⟨t, 0, none⟩) 6 6)) (fun w1 hw h => Me (p := ([] : WS) ++ [Kw, x1, x2]) (l := Lp P.T) (show K7 w1 w.heap.size 9 1 y4.1 (0 + 3) y4.2 (sv (([] : WS) ++ [Kw, x1, x2])) from h.1) hw.size h.2 Zd) (fun w1 h => fun b hb => ⟨((show K7 w1 w.heap.size 9 1 y4.1 (0 + 3) y4.2 (sv (([] : WS) ++ [Kw, x1, x2])) from h.1).lt b hb).1, ((show K7 w1 w.heap.size 9 1 y4.1 (0 + 3) y4.2 (sv (([] : WS) ++ [Kw, x1, x2])) from h.1).blk b hb).2⟩) (fun z wa wb e1 e2 h hG => hG) Zk Zk (fun y5 => ?_)
 refine ZR ?_
 refine ZD 4 (fun w1 hw h => Ze (y := (q.xA, q.xc)) (hp.px.below hw) hl Zo Zo) fun im => ?_
 refine K0.mutOp (L := bl y5.1) (val := fun (z : Option Addr × Nat) => .slice z.1 (0 + 3 + 6 + 3) z.2) (Φ' := fun (z : Option Addr × Nat) v => K7 v w.heap.size 9 1 z.1 (0 + 3 + 6 + 3) z.2 (sv (([] : WS) ++ [Kw, x1, x2] ++ Lp P.T ++ Xy P.im))) (G := fun (z : Option Addr × Nat) v => K7 v w.heap.size 9 1 z.1 (0 + 3 + 6 + 3) z.2 (sv (([] : WS) ++ [Kw, x1, x2] ++ Lp P.T ++ Xy P.im))) (Lh 64 64 (.slice y5.1 (0 + 3 + 6) y5.2) (.slice (some ⟨im, 0, none⟩) 3 3)) (fun w1 hw h => Me (p := ([] : WS) ++ [Kw, x1, x2] ++ Lp P.T) (l := Xy P.im) (show K7 w1 w.heap.size 9 1 y5.1 (0 + 3 + 6) y5.2 (sv (([] : WS) ++ [Kw, x1, x2] ++ Lp P.T)) from h.1) hw.size h.2 Zd) (fun w1 h => fun b hb => ⟨((show K7 w1 w.heap.size 9 1 y5.1 (0 + 3 + 6) y5.2 (sv (([] : WS) ++ [Kw, x1, x2] ++ Lp P.T)) from h.1).lt b hb).1, ((show K7 w1 w.heap.size 9 1 y5.1 (0 + 3 + 6) y5.2 (sv (([] : WS) ++ [Kw, x1, x2] ++ Lp P.T)) from h.1).blk b hb).2⟩) (fun z wa wb e1 e2 h hG => hG) Zk Zk (fun y6 => ?_)
 refine ZR ?_
 have e : O1 P = ([] : WS) ++ [Kw, x1, x2] ++ Lp P.T ++ Xy P.im := by unfold O1; rw [if_neg k1, if_pos k4, hx1, hx2]; simp
 have el : (O1 P).length = 0 + 3 + 6 + 3 := by rw [e]; rfl
 refine ZV (.slice y6.1 (0 + 3 + 6 + 3) y6.2) (fun w1 hw h => ⟨y6, by rw [el], hw, fun w'' k1 k2 => by rw [el, e]; exact (show K7 w'' w.heap.size 9 1 y6.1 (0 + 3 + 6 + 3) y6.2 (sv (([] : WS) ++ [Kw, x1, x2] ++ Lp P.T ++ Xy P.im)) from h w'' k1 k2).strs⟩)
end
end
section
open Go.RowKit
--ATNAMES
end
section
open Go.RowKit
--ATNAMES
def Mh (t : TV) : Bool := decide (t.a.a.n ≤ 12) && (decide (t.a.b.n ≤ 12) && (decide (t.b.a.n ≤ 12) && (decide (t.b.b.n ≤ 12) && (decide (t.c.a.n ≤ 12) && (decide (t.c.b.n ≤ 12) && (decide (t.d.a.n ≤ 12) && (decide (t.d.b.n ≤ 12) && (decide (t.e.a.n ≤ 12) && (decide (t.e.b.n ≤ 12) && (decide (t.f.a.n ≤ 12) && decide (t.f.b.n ≤ 12)))))))))))
theorem Sk {n : Nat} (h : decide ((n : Int) > 12) = true) : decide (n ≤ 12) = false := decide_eq_false (by have := of_decide_eq_true h; omega)
theorem Sm {n : Nat} (h : decide ((n : Int) > 12) = false) : decide (n ≤ 12) = true := decide_eq_true (by have := of_decide_eq_false h; omega)
section
variable {w : World} {P : Pn} {q : PM} {K : Nat} {l : List UInt8} {t : TV}
theorem short_isA (h : Mh t = true) (i : InT t w) : ∃ T, IsA t T 12 w := by
 unfold Mh at h
 simp only [Bool.and_eq_true, decide_eq_true_eq] at h
 obtain ⟨a1, a2, b1, b2, c1, c2, d1, d2, e1, e2, f1, f2⟩ := h
 have k : ∀ {r : RV}, InR r w → r.a.n ≤ 12 → r.b.n ≤ 12 → ∃ q, X8 r q 12 w := fun h h1 h2 => ⟨_, _, _, of_in h.1 h1, of_in h.2 h2, rfl⟩
 obtain ⟨a, ha⟩ := k i.a a1 a2
 obtain ⟨b, hb⟩ := k i.b b1 b2
 obtain ⟨c, hc⟩ := k i.c c1 c2
 obtain ⟨d, hd⟩ := k i.d d1 d2
 obtain ⟨e, he⟩ := k i.e e1 e2
 obtain ⟨f, hf⟩ := k i.f f1 f2
 exact ⟨⟨a, b, c, d, e, f⟩, ha, hb, hc, hd, he, hf⟩
theorem short_m : Calls Tryz.prog 8 #[t.val] w (K5 w (fun _ : Unit => .bool (Mh t)) fun _ _ => True) := by
 refine K0.enter Tryz.func8 rfl ?_
 refine ZS 12 ?_
 refine K0.make (Ks 68 6 #[(0, t.a.val), (1, t.b.val), (2, t.c.val), (3, t.d.val), (4, t.e.val), (5, t.f.val)]) (Kb 6) (Kp 36 t.cl.toArray) Zk (fun w1 hw h => K8 Zk) (fun g => ?_)
 refine ZR ?_
 have hg : ∀ v : World, Kp 36 t.cl.toArray g v → Ka v g t.cl := fun v h => ⟨_, h⟩
 have hcell : ∀ {v : World} {k j : Nat} {cs : List Value} {x : Value}, v.rangeAt g k cs → cs[j]? = some x → v.cell? ⟨g, k + j, none⟩ = some x := fun h1 h2 => h1 _ _ h2
 refine K0.un Zk ?_
 refine ZR ?_
 refine ZI true ?_
 refine ZA (Ke 68 (Kb 6 g) 0) (.pointer (some ⟨g, 0 * 4, none⟩)) (fun w1 hw h => Kn (elem := 36) Zk Zk Zd) ?_
 refine K0.ask (L7 32 ⟨g, 1, none⟩) (.slice t.a.a.A t.a.a.n t.a.a.c) Zk (fun w1 hw h => K9 Zk (hcell (k := 0 * 4) (j := 1) (six_a (hg _ h.2)) rfl)) ?_
 refine ZS 9 ?_
 refine K0.fork 31 (decide ((t.a.a.n : Int) > 12)) Zk (fun hc => ?_) (fun hc => ?_)
 ·
  refine K0.runC Zk (stop := 1000) 6000 _ ?_
  exact ZX (.bool false) (by unfold Mh; rw [Sk hc]; simp)
 have haa := Sm hc
 clear hc
 refine ZR ?_
 refine ZA (Ke 68 (Kb 6 g) 0) (.pointer (some ⟨g, 0 * 4, none⟩)) (fun w1 hw h => Kn (elem := 36) Zk Zk Zd) ?_
 refine ZA (L7 32 ⟨g, 3, none⟩) (.slice t.a.b.A t.a.b.n t.a.b.c) (fun w1 hw h => K9 Zk (hcell (k := 0 * 4) (j := 3) (six_a (hg _ h.2)) rfl)) ?_
 refine K0.both (decide ((t.a.b.n : Int) > 12)) Zk (fun hc => ?_) (fun hc => ?_)
 ·
  refine K0.runC Zk (stop := 1000) 6000 _ ?_
  exact ZX (.bool false) (by unfold Mh; rw [Sk hc]; simp)
 have hba := Sm hc
 clear hc
 refine ZR ?_
 refine ZI true ?_
 refine ZA (Ke 68 (Kb 6 g) 1) (.pointer (some ⟨g, 1 * 4, none⟩)) (fun w1 hw h => Kn (elem := 36) Zk Zk Zd) ?_
 refine K0.ask (L7 32 ⟨g, 5, none⟩) (.slice t.b.a.A t.b.a.n t.b.a.c) Zk (fun w1 hw h => K9 Zk (hcell (k := 1 * 4) (j := 1) (six_b (hg _ h.2)) rfl)) ?_
 refine ZS 9 ?_
 refine K0.fork 31 (decide ((t.b.a.n : Int) > 12)) Zk (fun hc => ?_) (fun hc => ?_)
 ·
  refine K0.runC Zk (stop := 1000) 6000 _ ?_
  exact ZX (.bool false) (by unfold Mh; rw [Sk hc]; simp)
 have hab := Sm hc
 clear hc
 refine ZR ?_
 refine ZA (Ke 68 (Kb 6 g) 1) (.pointer (some ⟨g, 1 * 4, none⟩)) (fun w1 hw h => Kn (elem := 36) Zk Zk Zd) ?_
 refine ZA (L7 32 ⟨g, 7, none⟩) (.slice t.b.b.A t.b.b.n t.b.b.c) (fun w1 hw h => K9 Zk (hcell (k := 1 * 4) (j := 3) (six_b (hg _ h.2)) rfl)) ?_
 refine K0.both (decide ((t.b.b.n : Int) > 12)) Zk (fun hc => ?_) (fun hc => ?_)
 ·
  refine K0.runC Zk (stop := 1000) 6000 _ ?_
  exact ZX (.bool false) (by unfold Mh; rw [Sk hc]; simp)
 have hbb := Sm hc
 clear hc
 refine ZR ?_
 refine ZI true ?_
 refine ZA (Ke 68 (Kb 6 g) 2) (.pointer (some ⟨g, 2 * 4, none⟩)) (fun w1 hw h => Kn (elem := 36) Zk Zk Zd) ?_
 refine K0.ask (L7 32 ⟨g, 9, none⟩) (.slice t.c.a.A t.c.a.n t.c.a.c) Zk (fun w1 hw h => K9 Zk (hcell (k := 2 * 4) (j := 1) (six_c (hg _ h.2)) rfl)) ?_
 refine ZS 9 ?_
 refine K0.fork 31 (decide ((t.c.a.n : Int) > 12)) Zk (fun hc => ?_) (fun hc => ?_)
 ·
  refine K0.runC Zk (stop := 1000) 6000 _ ?_
  exact ZX (.bool false) (by unfold Mh; rw [Sk hc]; simp)
 have hac := Sm hc
 clear hc
 refine ZR ?_
 refine ZA (Ke 68 (Kb 6 g) 2) (.pointer (some ⟨g, 2 * 4, none⟩)) (fun w1 hw h => Kn (elem := 36) Zk Zk Zd) ?_
 refine ZA (L7 32 ⟨g, 11, none⟩) (.slice t.c.b.A t.c.b.n t.c.b.c) (fun w1 hw h => K9 Zk (hcell (k := 2 * 4) (j := 3) (six_c (hg _ h.2)) rfl)) ?_
 refine K0.both (decide ((t.c.b.n : Int) > 12)) Zk (fun hc => ?_) (fun hc => ?_)
 ·
  refine K0.runC Zk (stop := 1000) 6000 _ ?_
  exact ZX (.bool false) (by unfold Mh; rw [Sk hc]; simp)
 have hbc := Sm hc
 clear hc
 refine ZR ?_
 refine ZI true ?_
 refine ZA (Ke 68 (Kb 6 g) 3) (.pointer (some ⟨g, 3 * 4, none⟩)) (fun w1 hw h => Kn (elem := 36) Zk Zk Zd) ?_
 refine K0.ask (L7 32 ⟨g, 13, none⟩) (.slice t.d.a.A t.d.a.n t.d.a.c) Zk (fun w1 hw h => K9 Zk (hcell (k := 3 * 4) (j := 1) (six_d (hg _ h.2)) rfl)) ?_
 refine ZS 9 ?_
 refine K0.fork 31 (decide ((t.d.a.n : Int) > 12)) Zk (fun hc => ?_) (fun hc => ?_)
 ·
  refine K0.runC Zk (stop := 1000) 6000 _ ?_
  exact ZX (.bool false) (by unfold Mh; rw [Sk hc]; simp)
 have had := Sm hc
 clear hc
 refine ZR ?_
 refine ZA (Ke 68 (Kb 6 g) 3) (.pointer (some ⟨g, 3 * 4, none⟩)) (fun w1 hw h => Kn (elem := 36) Zk Zk Zd) ?_
 refine ZA (L7 32 ⟨g, 15, none⟩) (.slice t.d.b.A t.d.b.n t.d.b.c) (fun w1 hw h => K9 Zk (hcell (k := 3 * 4) (j := 3) (six_d (hg _ h.2)) rfl)) ?_
 refine K0.both (decide ((t.d.b.n : Int) > 12)) Zk (fun hc => ?_) (fun hc => ?_)
 ·
  refine K0.runC Zk (stop := 1000) 6000 _ ?_
  exact ZX (.bool false) (by unfold Mh; rw [Sk hc]; simp)
 have hbd := Sm hc
 clear hc
 refine ZR ?_
 refine ZI true ?_
 refine ZA (Ke 68 (Kb 6 g) 4) (.pointer (some ⟨g, 4 * 4, none⟩)) (fun w1 hw h => Kn (elem := 36) Zk Zk Zd) ?_
 refine K0.ask (L7 32 ⟨g, 17, none⟩) (.slice t.e.a.A t.e.a.n t.e.a.c) Zk (fun w1 hw h => K9 Zk (hcell (k := 4 * 4) (j := 1) (six_e (hg _ h.2)) rfl)) ?_
 refine ZS 9 ?_
 refine K0.fork 31 (decide ((t.e.a.n : Int) > 12)) Zk (fun hc => ?_) (fun hc => ?_)
 ·
  refine K0.runC Zk (stop := 1000) 6000 _ ?_
  exact ZX (.bool false) (by unfold Mh; rw [Sk hc]; simp)
 have hae := Sm hc
 clear hc
 refine ZR ?_
 refine ZA (Ke 68 (Kb 6 g) 4) (.pointer (some ⟨g, 4 * 4, none⟩)) (fun w1 hw h => Kn (elem := 36) Zk Zk Zd) ?_
 refine ZA (L7 32 ⟨g, 19, none⟩) (.slice t.e.b.A t.e.b.n t.e.b.c) (fun w1 hw h => K9 Zk (hcell (k := 4 * 4) (j := 3) (six_e (hg _ h.2)) rfl)) ?_
 refine K0.both (decide ((t.e.b.n : Int) > 12)) Zk (fun hc => ?_) (fun hc => ?_)
 ·
  refine K0.runC Zk (stop := 1000) 6000 _ ?_
  exact ZX (.bool false) (by unfold Mh; rw [Sk hc]; simp)
 have hbe := Sm hc
 clear hc
 refine ZR ?_
 refine ZI true ?_
 refine ZA (Ke 68 (Kb 6 g) 5) (.pointer (some ⟨g, 5 * 4, none⟩)) (fun w1 hw h => Kn (elem := 36) Zk Zk Zd) ?_
 refine K0.ask (L7 32 ⟨g, 21, none⟩) (.slice t.f.a.A t.f.a.n t.f.a.c) Zk (fun w1 hw h => K9 Zk (hcell (k := 5 * 4) (j := 1) (six_f (hg _ h.2)) rfl)) ?_
 refine ZS 9 ?_
 refine K0.fork 31 (decide ((t.f.a.n : Int) > 12)) Zk (fun hc => ?_) (fun hc => ?_)
 ·
  refine K0.runC Zk (stop := 1000) 6000 _ ?_
  exact ZX (.bool false) (by unfold Mh; rw [Sk hc]; simp)
 have haf := Sm hc
 clear hc
 refine ZR ?_
 refine ZA (Ke 68 (Kb 6 g) 5) (.pointer (some ⟨g, 5 * 4, none⟩)) (fun w1 hw h => Kn (elem := 36) Zk Zk Zd) ?_
 refine ZA (L7 32 ⟨g, 23, none⟩) (.slice t.f.b.A t.f.b.n t.f.b.c) (fun w1 hw h => K9 Zk (hcell (k := 5 * 4) (j := 3) (six_f (hg _ h.2)) rfl)) ?_
 refine K0.both (decide ((t.f.b.n : Int) > 12)) Zk (fun hc => ?_) (fun hc => ?_)
 ·
  refine K0.runC Zk (stop := 1000) 6000 _ ?_
  exact ZX (.bool false) (by unfold Mh; rw [Sk hc]; simp)
 have hbf := Sm hc
 clear hc
 refine ZR ?_
 refine ZI false ?_
 exact ZX (.bool true) (by unfold Mh; rw [haa, hba, hab, hbb, hac, hbc, had, hbd, hae, hbe, haf, hbf]; rfl)
def U6 (P : Pn) (q : PM) : Bool := Mh q.t && (decide (P.stops.length ≤ 40) && decide (P.im.px.length ≤ 1000))
theorem short_v {B : Bool} (hB : Mh t = B) : Calls Tryz.prog 8 #[t.val] w (K5 w (fun _ : Unit => .bool B) fun _ _ => True) := by subst hB; exact short_m
theorem Ss {B : Bool} (hB : U6 P q = B) : Calls Tryz.prog 9 #[pnV P q] w (K5 w (fun _ : Unit => .bool B) fun _ _ => True) := by
 unfold U6 at hB
 refine K0.enter Tryz.func9 rfl ?_
 refine ZR ?_
 cases h1 : Mh q.t
 ·rw [h1, Bool.false_and] at hB
  refine ZC (fun w1 hw h => short_v h1) fun u => ?_
  exact ZX (.bool false) (by rw [← hB])
 rw [h1, Bool.true_and] at hB
 refine ZD 10 (fun w1 hw h => short_v h1) fun u => ?_
 by_cases h2 : P.stops.length ≤ 40
 case neg =>
  rw [decide_eq_false h2, Bool.false_and] at hB
  refine ZT 12 (.bool (decide ((P.stops.length : Int) ≤ 40))) (.bool false) (by rw [decide_eq_false Zo]) ?_
  exact ZX (.bool false) (by rw [← hB])
 rw [decide_eq_true h2, Bool.true_and] at hB
 refine ZT 12 (.bool (decide ((P.stops.length : Int) ≤ 40))) (.bool true) (by rw [decide_eq_true Zo]) ?_
 exact ZX (.bool (decide ((P.im.px.length : Int) ≤ 1000))) (by rw [← hB]; congr 2; exact decide_eq_decide.2 Zo)
end
def shCol : Sh := .cons 1 (.int .u8) (.cons 1 (.int .u8) (.cons 1 (.int .u8) (.cons 1 (.int .u8) .nil)))
def shPnt : Sh := .cons 1 (.int .i64) (.cons 1 (.int .i64) .nil)
def shStop : Sh := .cons 1 (.int .i64) (.cons 4 shCol .nil)
def shImg : Sh := .cons 1 (.int .i64) (.cons 1 (.int .i64) (.cons 1 (.sl 4 shCol) .nil))
def shPaint : Sh := .cons 1 (.int .i64) (.cons 4 shCol (.cons 2 shPnt (.cons 2 shPnt (.cons 1 (.int .i64) (.cons 1 (.sl 5 shStop) (.cons 1 (.int .i64) (.cons 3 shImg (.cons 1 (.int .i64) (.cons 24 shAff .nil)))))))))
section
variable {w : World} {cs : List Value}
theorem rd_u8 (h : Rd w (.int .u8) cs) : ∃ c : UInt8, cs = [.int .u8 (c.toNat : Int)] := by
 obtain ⟨z, rfl, hz⟩ := h
 have h2 : 0 ≤ z ∧ z ≤ 255 := by
  simp only [Lit.wf, Bool.and_eq_true, decide_eq_true_iff] at hz
  exact hz
 refine ⟨UInt8.ofNat z.toNat, ?_⟩
 have h3 : (UInt8.ofNat z.toNat).toNat = z.toNat := by
  rw [UInt8.toNat_ofNat']
  omega
 rw [h3, Int.toNat_of_nonneg h2.1]
theorem rd_col (h : Rd w shCol cs) : ∃ c : Co, cs = Pu c := by
 obtain ⟨_, _, rfl, _, h1, h⟩ := Kh h
 obtain ⟨_, _, rfl, _, h2, h⟩ := Kh h
 obtain ⟨_, _, rfl, _, h3, h⟩ := Kh h
 obtain ⟨_, _, rfl, _, h4, h⟩ := Kh h
 obtain rfl := h
 obtain ⟨a, rfl⟩ := rd_u8 h1
 obtain ⟨b, rfl⟩ := rd_u8 h2
 obtain ⟨c, rfl⟩ := rd_u8 h3
 obtain ⟨d, rfl⟩ := rd_u8 h4
 exact ⟨(a, b, c, d), rfl⟩
theorem rd_pnt (h : Rd w shPnt cs) : ∃ x y : Int, cs = [.int .i64 x, .int .i64 y] := by
 obtain ⟨_, _, rfl, _, h1, h⟩ := Kh h
 obtain ⟨_, _, rfl, _, h2, h⟩ := Kh h
 obtain rfl := h
 obtain ⟨a, rfl, _⟩ := h1
 obtain ⟨b, rfl, _⟩ := h2
 exact ⟨a, b, rfl⟩
theorem rd_stop (h : Rd w shStop cs) : ∃ x : Int × Co, cs = Zy x := by
 obtain ⟨_, _, rfl, _, h1, h⟩ := Kh h
 obtain ⟨_, _, rfl, _, h2, h⟩ := Kh h
 obtain rfl := h
 obtain ⟨a, rfl, _⟩ := h1
 obtain ⟨c, rfl⟩ := rd_col h2
 exact ⟨(a, c), rfl⟩
theorem Vg {α : Type} {n : Nat} {e : Sh} {cl : α → List Value} (he : ∀ xs, Rd w e xs → ∃ x, xs = cl x) (h : Rd w (.sl n e) cs) : ∃ (A : Option Addr) (cap : Nat) (l : List α), cs = [.slice A l.length cap] ∧ Nw w A l.length n cl l := by
 obtain ⟨A, len, cap, rfl, _, _, hel⟩ := h
 have hx : ∀ i : Fin len, ∃ x : α, ∃ ad, A = some ad ∧ ∀ (j : Nat) (v : Value), (cl x)[j]? = some v → w.cell? ((ad.add (i.1 * n)).add j) = some v := fun i => by
  obtain ⟨ad, xs, h1, _, h2, h3⟩ := hel i.1 i.2
  obtain ⟨x, rfl⟩ := he xs h3
  exact ⟨x, ad, h1, h2⟩
 have hlen : (List.ofFn fun i : Fin len => Classical.choose (hx i)).length = len := List.length_ofFn
 refine ⟨A, cap, List.ofFn fun i : Fin len => Classical.choose (hx i), by rw [hlen], rfl, fun k x hk => ?_⟩
 obtain ⟨h1, h2⟩ := List.getElem?_eq_some_iff.1 hk
 rw [List.getElem_ofFn] at h2
 have := Classical.choose_spec (hx ⟨k, by rw [hlen] at h1; exact h1⟩)
 rw [h2] at this
 exact this
theorem rd_paint (h : Rd w shPaint cs) : ∃ (P : Pn) (q : PM), cs = pnC P q ∧ Nw w q.sA P.stops.length 5 Zy P.stops ∧ Nw w q.xA P.im.px.length 4 Pu P.im.px ∧ InT q.t w := by
 obtain ⟨_, _, rfl, _, h1, h⟩ := Kh h
 obtain ⟨_, _, rfl, _, h2, h⟩ := Kh h
 obtain ⟨_, _, rfl, _, h3, h⟩ := Kh h
 obtain ⟨_, _, rfl, _, h4, h⟩ := Kh h
 obtain ⟨_, _, rfl, _, h5, h⟩ := Kh h
 obtain ⟨_, _, rfl, _, h6, h⟩ := Kh h
 obtain ⟨_, _, rfl, _, h7, h⟩ := Kh h
 obtain ⟨_, _, rfl, _, h8, h⟩ := Kh h
 obtain ⟨_, _, rfl, _, h9, h⟩ := Kh h
 obtain ⟨_, _, rfl, _, h10, h⟩ := Kh h
 obtain rfl := h
 obtain ⟨k, rfl, _⟩ := h1
 obtain ⟨c, rfl⟩ := rd_col h2
 obtain ⟨x0, y0, rfl⟩ := rd_pnt h3
 obtain ⟨x1, y1, rfl⟩ := rd_pnt h4
 obtain ⟨r, rfl, _⟩ := h5
 obtain ⟨sA, sc, l, rfl, hst⟩ := Vg (fun xs => rd_stop) h6
 obtain ⟨sp, rfl, _⟩ := h7
 obtain ⟨_, _, rfl, _, i1, h⟩ := Kh h8
 obtain ⟨_, _, rfl, _, i2, h⟩ := Kh h
 obtain ⟨_, _, rfl, _, i3, h⟩ := Kh h
 obtain rfl := h
 obtain ⟨iw, rfl, _⟩ := i1
 obtain ⟨ih, rfl, _⟩ := i2
 obtain ⟨xA, xc, px, rfl, hpx⟩ := Vg (fun xs => rd_col) i3
 obtain ⟨sm, rfl, _⟩ := h9
 obtain ⟨t, rfl, ht⟩ := rd_aff h10
 exact ⟨⟨k, c, x0, y0, x1, y1, r, l, sp, ⟨iw, ih, px⟩, sm, Qc⟩, ⟨sA, sc, xA, xc, t⟩, by simp [pnC, Pu], hst, hpx, ht⟩
end
end
def Pl (x : List UInt8) : Prop := x ≠ [] ∧ ∀ b ∈ x, Ly b = true
end Go.Proofs.YtdeepdckmhpldaaGreatDoor
