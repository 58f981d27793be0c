/-
 Paints as text: which paints are valid; the program's words.
-/
import Derived.Test.YtdeepdckmhpldaaGreatDoorYT
import Derived.Test.YtdeepdckmhpldaaGreatDoorTA
namespace Go.Proofs.YtdeepdckmhpldaaGreatDoor
set_option maxRecDepth 100000
set_option maxHeartbeats 8000000
set_option linter.unusedVariables false
set_option linter.unusedSimpArgs false
open Go.RowKit
section
variable {w : World} {A A2 : Option Addr} {n c : Nat} {l : List (Int × Co)} {px : List Co} {P : Pn} {q : PM} {K : Nat} {B : Bool} {k x y : Int} {m : Im} {co : Co} {g : Nat}
def mn8 (a b : UInt8) : UInt8 := if b < a then b else a
theorem mn8_eq (a b : UInt8) : ((mn8 a b).toNat : Int) = if (b.toNat : Int) < (a.toNat : Int) then (b.toNat : Int) else (a.toNat : Int) := by
 unfold mn8
 by_cases h : b < a
 ·rw [if_pos h, if_pos (by have := UInt8.lt_iff_toNat_lt.1 h; omega)]
 ·rw [if_neg h, if_neg (by have := mt UInt8.lt_iff_toNat_lt.2 h; omega)]
def clampC (c : Co) : Co := (mn8 c.1 c.2.2.2, mn8 c.2.1 c.2.2.2, mn8 c.2.2.1 c.2.2.2, mn8 c.2.2.2 c.2.2.2)
theorem mn8_self {a b : UInt8} : mn8 a b = a ↔ a ≤ b := by
 unfold mn8
 by_cases h : b < a
 ·rw [if_pos h]
  have := UInt8.lt_iff_toNat_lt.1 h
  constructor
  ·intro e; subst e; exact UInt8.le_refl _
  ·intro e; have := UInt8.le_iff_toNat_le.1 e; omega
 ·rw [if_neg h]
  have := mt UInt8.lt_iff_toNat_lt.2 h
  exact ⟨fun _ => UInt8.le_iff_toNat_le.2 Zo, fun _ => rfl⟩
theorem clampC_ok : decide (clampC co = co) = pxOK co := by
 obtain ⟨r, g, b, a⟩ := co
 unfold clampC pxOK
 apply decide_eq_decide.2
 simp only [Prod.mk.injEq, mn8_self]
 constructor
 ·exact fun h => ⟨h.1, h.2.1, h.2.2.1⟩
 ·exact fun h => ⟨h.1, h.2.1, h.2.2, UInt8.le_refl _⟩
theorem clamp1_m {v : UInt8} (hb : Ka w g (Pu co)) : Calls Tryz.prog 262 #[.int .u8 (v.toNat : Int), .pointer (some ⟨g, 0, none⟩)] w (K5 w (fun _ : Unit => .int .u8 ((mn8 v co.2.2.2).toNat : Int)) fun _ _ => True) := by
 refine K0.enter Tryz.func262 rfl ?_
 refine ZR ?_
 refine ZA (L7 5 ⟨g, 3, none⟩) (.int .u8 (co.2.2.2.toNat : Int)) (fun w1 hw h => K9 Zk (by rw [(hb.below hw).cell]; rfl)) ?_
 exact ZX (.int .u8 (if (co.2.2.2.toNat : Int) < (v.toNat : Int) then (co.2.2.2.toNat : Int) else (v.toNat : Int))) (by rw [mn8_eq])
theorem each_m (hb : Ka w g (Pu co)) : Calls Tryz.prog 261 #[S5 co, .func (.func 262) #[] #[.pointer (some ⟨g, 0, none⟩)]] w (K5 w (fun _ : Unit => S5 (clampC co)) fun _ _ => True) := by
 refine K0.enter Tryz.func261 rfl ?_
 refine ZR ?_
 refine ZC (fun w1 hw h => clamp1_m (v := co.1) (hb.below hw)) fun u0 => ?_
 refine ZC (fun w1 hw h => clamp1_m (v := co.2.1) (hb.below hw)) fun u1 => ?_
 refine ZC (fun w1 hw h => clamp1_m (v := co.2.2.1) (hb.below hw)) fun u2 => ?_
 refine ZC (fun w1 hw h => clamp1_m (v := co.2.2.2) (hb.below hw)) fun u3 => ?_
 exact ZW (S5 (clampC co))
theorem clamp_m : Calls Tryz.prog 217 #[S5 co] w (K5 w (fun _ : Unit => S5 (clampC co)) fun _ _ => True) := by
 refine K0.enter Tryz.func217 rfl ?_
 refine ZS 0 ?_
 refine K0.make (boxS 204 (S5 co)) (ptr) (fun g u => Ka u g (Pu co) ∧ 0 ≤ g ∧ g < u.heap.size) Zk (fun w1 hw h => Uv (v := S5 co) (Nat.zero_le _)) (fun g => ?_)
 refine ZS 1 ?_
 refine ZR ?_
 refine ZA (L7 204 ⟨g, 0, none⟩) (S5 co) (fun w1 hw h => M6 (vs := Pu co) Zk Zk h.2.1.range) ?_
 refine ZC (fun w1 hw h => each_m h.2.1) fun u => ?_
 exact ZW (S5 (clampC co))
theorem cvalid_v (hB : pxOK co = B) : Calls Tryz.prog 170 #[S5 co] w (K5 w (fun _ : Unit => .bool B) fun _ _ => True) := by
 refine K0.enter Tryz.func170 rfl ?_
 refine ZR ?_
 refine ZD 3 (fun w1 hw h => clamp_m (co := co)) fun u => ?_
 refine ZB 3 (eqP 204 (.tmp 4) (.tmp 5) (S5 (clampC co)) (S5 co)) (.bool B) (fun w1 hw h => run_eq_px (clampC_ok.trans hB)) ?_
 exact ZW (.bool B)
theorem ivalid2_v (hB : pxOK co = B) : Calls Tryz.prog 169 #[S5 co] w (K5 w (fun _ : Unit => .bool (!B)) fun _ _ => True) := by
 refine K0.enter Tryz.func169 rfl ?_
 refine ZR ?_
 refine ZC (fun w1 hw h => cvalid_v hB) fun u => ?_
 exact ZW (.bool (!B))
theorem may_v (hB : decide (1 ≤ x ∧ x ≤ 4096) = B) : Calls Tryz.prog 167 #[.int .i64 x] w (K5 w (fun _ : Unit => .bool B) fun _ _ => True) := by
 refine K0.enter Tryz.func167 rfl ?_
 refine ZS 3 ?_
 by_cases h1 : 1 ≤ x
 case neg =>
  refine ZT 5 (.bool (decide (x ≥ 1))) (.bool false) (by rw [decide_eq_false Zo]) ?_
  exact ZX (.bool false) (by rw [← hB, decide_eq_false Zo])
 refine ZT 5 (.bool (decide (x ≥ 1))) (.bool true) (by rw [decide_eq_true Zo]) ?_
 exact ZX (.bool (decide (x ≤ 4096))) (by rw [← hB]; congr 2; exact decide_eq_decide.2 Zo)
theorem spread_v (hB : Ri x = B) : Calls Tryz.prog 117 #[.int .i64 x] w (K5 w (fun _ : Unit => .bool B) fun _ _ => True) := by
 unfold Ri at hB
 refine K0.enter Tryz.func117 rfl ?_
 refine ZS 3 ?_
 by_cases h1 : 1 ≤ x
 case neg =>
  refine ZT 5 (.bool (decide (x ≥ 1))) (.bool false) (by rw [decide_eq_false Zo]) ?_
  exact ZX (.bool false) (by rw [← hB, decide_eq_false Zo])
 refine ZT 5 (.bool (decide (x ≥ 1))) (.bool true) (by rw [decide_eq_true Zo]) ?_
 exact ZX (.bool (decide (x ≤ 3))) (by rw [← hB]; congr 2; exact decide_eq_decide.2 Zo)
theorem Si {α : Type} {p : α → Bool} {l : List α} {k : Nat} {x : α} (hx : l[k]? = some x) (h : (l.take k).all p = true) : (l.take (k + 1)).all p = p x := by
 rw [List.take_add_one, hx]; simp [h]
theorem Vv {α : Type} {p : α → Bool} {l : List α} {k : Nat} {x : α} (hx : l[k]? = some x) (h : p x = false) : l.all p = false := by
 rw [List.all_eq_false]; exact ⟨x, List.mem_of_getElem? hx, by simp [h]⟩
theorem index_v (hB : px.all pxOK = B) (hp : Nw w A n 4 Pu px) (hn : n ≤ 1000000000) : Calls Tryz.prog 216 #[.slice A n c, .func (.func 169) #[] #[]] w (K5 w (fun r : {r : Int // decide (r ≥ 0) = !B} => .int .i64 r.1) fun _ _ => True) := by
 have hpn := hp.1
 refine K0.enter Tryz.func216 rfl ?_
 refine ZR ?_
 refine K0.loop (ι := {q : Nat // q ≤ n ∧ (px.take q).all pxOK = true}) 19 (fun q => ⟨[(0, .v (.slice A n c)), (1, .v (.func (.func 169) #[] #[])), (7, .v (.int .i64 n)), (8, .v (.int .i64 q.1))], []⟩) (fun q u => True) (fun q => n - q.1) (⟨0, Nat.zero_le _, rfl⟩) Zk (fun _ => by kernel_rfl) ⟨Zk, Zk, Zk⟩ (fun u h => trivial) ?_
 rintro ⟨k, hk, hall⟩ gg
 have hk : k ≤ n := hk
 have hall : (px.take k).all pxOK = true := hall
 by_cases hlt : k < n
 case neg =>
  obtain rfl : k = n := by omega
  rw [List.take_of_length_le Zo] at hall
  refine ZR ?_
  refine ZJ (decide ((k : Int) < (k : Int))) false Zs ?_
  refine K0.leave Zk ?_
  refine ZR ?_
  refine ZV (.int .i64 (-1)) (fun w1 hw h => ⟨⟨-1, by rw [← hB, hall]; rfl⟩, rfl, hw, fun _ _ _ => trivial⟩)
 obtain ⟨x, hx⟩ : ∃ x, px[k]? = some x := ⟨_, List.getElem?_eq_getElem Zo⟩
 obtain ⟨ad, hA, hc⟩ := hp.2 k x hx
 refine ZR ?_
 refine ZJ (decide ((k : Int) < (n : Int))) true Zp ?_
 refine ZA (Ke 44 (.slice A n c) k) (.pointer (some (ad.add (k * 4)))) (fun w1 hw h => px_idx hA hlt) ?_
 refine ZA (L7 204 (ad.add (k * 4))) (.agg (Pu x).toArray) (fun w1 hw h => px_ld fun j v hj => Ky hw (hc j v hj)) ?_
 cases hb : pxOK x
 ·
  refine ZC (fun w1 hw h => ivalid2_v (co := x) hb) fun u => ?_
  refine ZI true ?_
  refine K0.leave Zk ?_
  refine ZR ?_
  refine ZV (.int .i64 (k : Int)) (fun w1 hw h => ⟨⟨k, by rw [← hB, Vv hx hb]; simp⟩, rfl, hw, fun _ _ _ => trivial⟩)
 ·
  refine ZC (fun w1 hw h => ivalid2_v (co := x) hb) fun u => ?_
  refine ZI false ?_
  refine K0.slot 8 (.int .i64 (IntKind.i64.wrap ((k : Int) + 1))) (.int .i64 ((k + 1 : Nat) : Int)) Zk (by rw [Kc hlt Zo]) ?_
  refine K0.next (⟨k + 1, by show k + 1 ≤ n; omega, by rw [Si hx hall, hb]⟩) Zk (by show n - (k + 1) < n - k; omega) ⟨Zk, Zk, Zk⟩ (fun u h => trivial)
theorem contains_v (hB : px.all pxOK = B) (hp : Nw w A n 4 Pu px) (hn : n ≤ 1000000000) : Calls Tryz.prog 168 #[.slice A n c, .func (.func 169) #[] #[]] w (K5 w (fun _ : Unit => .bool (!B)) fun _ _ => True) := by
 refine K0.enter Tryz.func168 rfl ?_
 refine ZR ?_
 refine ZC (fun w1 hw h => index_v (c := c) hB (hp.below hw) hn) fun u => ?_
 exact ZX (.bool (decide (u.1 ≥ 0))) (by rw [u.2])
theorem Yf (h1 : 1 ≤ x ∧ x ≤ 4096) (h2 : 1 ≤ y ∧ y ≤ 4096) : IntKind.i64.wrap (x * y) = x * y := by
 have h3 : x * y ≤ 4096 * 4096 := Int.mul_le_mul h1.2 h2.2 Zo Zo
 have h4 : 0 ≤ x * y := Int.mul_nonneg Zo Zo
 rw [IntWalk.i64_in _ Zo]
theorem imvalid_v {y : Option Addr × Nat} (hB : Uy m = B) (hp : Nw w y.1 m.px.length 4 Pu m.px) (hn : m.px.length ≤ 1000000000) : Calls Tryz.prog 116 #[imV m y] w (K5 w (fun _ : Unit => .bool B) fun _ _ => True) := by
 unfold Uy at hB
 refine K0.enter Tryz.func116 rfl ?_
 refine ZR ?_
 by_cases h1 : 1 ≤ m.w ∧ m.w ≤ 4096
 case neg =>
  have hz : Vz m.w m.h = false := decide_eq_false Zo
  refine ZC (fun w1 hw h => may_v (x := m.w) (decide_eq_false h1)) fun u => ?_
  refine ZR ?_
  refine ZI true ?_
  exact ZX (.bool false) (by rw [← hB, hz]; rfl)
 refine ZC (fun w1 hw h => may_v (x := m.w) (decide_eq_true h1)) fun u => ?_
 by_cases h2 : 1 ≤ m.h ∧ m.h ≤ 4096
 case neg =>
  have hz : Vz m.w m.h = false := decide_eq_false Zo
  refine ZC (fun w1 hw h => may_v (x := m.h) (decide_eq_false h2)) fun u2 => ?_
  refine ZR ?_
  refine ZI true ?_
  exact ZX (.bool false) (by rw [← hB, hz]; rfl)
 refine ZD 21 (fun w1 hw h => may_v (x := m.h) (decide_eq_true h2)) fun u2 => ?_
 by_cases h3 : m.w * m.h ≤ 65536
 case neg =>
  have hz : Vz m.w m.h = false := decide_eq_false Zo
  refine ZT 24 (.bool (decide (IntKind.i64.wrap (m.w * m.h) > 65536))) (.bool true) (by rw [Yf h1 h2, decide_eq_true Zo]) ?_
  refine ZI true ?_
  exact ZX (.bool false) (by rw [← hB, hz]; rfl)
 have hz : Vz m.w m.h = true := decide_eq_true ⟨h1.1, h1.2, h2.1, h2.2, h3⟩
 rw [hz, Bool.true_and] at hB
 refine ZT 24 (.bool (decide (IntKind.i64.wrap (m.w * m.h) > 65536))) (.bool false) (by rw [Yf h1 h2, decide_eq_false Zo]) ?_
 by_cases h4 : (m.px.length : Int) = m.w * m.h
 case neg =>
  refine ZJ (((m.px.length : Int) != IntKind.i64.wrap (m.w * m.h))) true (by rw [Yf h1 h2]; simpa using h4) ?_
  exact ZX (.bool false) (by rw [← hB, decide_eq_false h4]; rfl)
 rw [decide_eq_true h4, Bool.true_and] at hB
 refine ZJ (((m.px.length : Int) != IntKind.i64.wrap (m.w * m.h))) false (by rw [Yf h1 h2]; simpa using h4) ?_
 refine ZC (fun w1 hw h => contains_v (c := y.2) hB (hp.below hw) hn) fun v => ?_
 exact ZX (.bool (!!B)) (by rw [Bool.not_not])
theorem drop_get {α : Type} {l : List α} {k : Nat} {x : α} (hx : l[k]? = some x) : l.drop k = x :: l.drop (k + 1) := by
 obtain ⟨h1, h2⟩ := List.getElem?_eq_some_iff.1 hx
 rw [← h2, ← List.drop_eq_getElem_cons h1]
theorem gvalid_v (hB : Mv l = B) (hp : Nw w A n 5 Zy l) : Calls Tryz.prog 166 #[.slice A n c] w (K5 w (fun _ : Unit => .bool B) fun _ _ => True) := by
 have hpn := hp.1
 unfold Mv at hB
 refine K0.enter Tryz.func166 rfl ?_
 refine ZS 4 ?_
 by_cases h1 : n < 1
 case pos =>
  refine ZT 9 (.bool (decide ((n : Int) < 1))) (.bool true) (by rw [decide_eq_true Zo]) ?_
  refine ZI true ?_
  exact ZX (.bool false) (by rw [← hB, decide_eq_false Zo]; rfl)
 refine ZT 9 (.bool (decide ((n : Int) < 1))) (.bool false) (by rw [decide_eq_false Zo]) ?_
 by_cases h2 : n > 16
 case pos =>
  refine ZJ (decide ((n : Int) > 16)) true Zp ?_
  exact ZX (.bool false) (by rw [← hB, decide_eq_false Zo]; rfl)
 rw [decide_eq_true Zo, Bool.true_and] at hB
 refine ZJ (decide ((n : Int) > 16)) false Zp ?_
 refine K0.loop (ι := {q : Nat × Int // q.1 ≤ n ∧ Zx q.2 (l.drop q.1) = B}) 32 (fun q => ⟨[(3, .v (.int .i64 q.1.2)), (14, .v (.slice A n c)), (15, .v (.int .i64 n)), (16, .v (.int .i64 q.1.1))], []⟩) (fun q u => True) (fun q => n - q.1.1) (⟨(0, 0), Nat.zero_le _, hB⟩) Zk (fun _ => by kernel_rfl) ⟨Zk, Zk, Zk⟩ (fun u h => trivial) ?_
 rintro ⟨⟨k, a⟩, hk, hst⟩ gg
 have hk : k ≤ n := hk
 have hst : Zx a (l.drop k) = B := hst
 by_cases hlt : k < n
 case neg =>
  obtain rfl : k = n := by omega
  rw [List.drop_eq_nil_of_le Zo] at hst
  refine ZR ?_
  refine ZJ (decide ((k : Int) < (k : Int))) false Zs ?_
  refine K0.leave Zk ?_
  refine ZR ?_
  exact ZX (.bool true) (by rw [← hst]; rfl)
 obtain ⟨x, hx⟩ : ∃ x, l[k]? = some x := ⟨_, List.getElem?_eq_getElem Zo⟩
 obtain ⟨ad, hA, hc⟩ := hp.2 k x hx
 have e : Zx a (l.drop k) = (decide (a ≤ x.1 ∧ x.1 ≤ 65536) && Zx x.1 (l.drop (k + 1))) := by rw [drop_get hx]; rfl
 rw [e] at hst
 refine ZR ?_
 refine ZJ (decide ((k : Int) < (n : Int))) true Zp ?_
 refine ZA (Ke 54 (.slice A n c) k) (.pointer (some (ad.add (k * 5)))) (fun w1 hw h => Vc hA hlt) ?_
 refine K0.ask (L7 133 (ad.add (k * 5))) (.agg (Zy x).toArray) Zk (fun w1 hw h => st_ld fun j v hj => Ky hw (hc j v hj)) ?_
 refine ZS 5 ?_
 by_cases h3 : x.1 < a
 case pos =>
  refine ZT 24 (.bool (decide (x.1 < a))) (.bool true) (by rw [decide_eq_true h3]) ?_
  refine ZI true ?_
  refine K0.leave Zk ?_
  refine ZR ?_
  exact ZX (.bool false) (by rw [← hst, decide_eq_false Zo]; rfl)
 refine ZT 24 (.bool (decide (x.1 < a))) (.bool false) (by rw [decide_eq_false h3]) ?_
 by_cases h4 : x.1 > 65536
 case pos =>
  refine ZJ (decide (x.1 > 65536)) true (by simpa using h4) ?_
  refine K0.leave Zk ?_
  refine ZR ?_
  exact ZX (.bool false) (by rw [← hst, decide_eq_false Zo]; rfl)
 rw [decide_eq_true Zo, Bool.true_and] at hst
 refine ZJ (decide (x.1 > 65536)) false (by simpa using h4) ?_
 refine K0.slot 16 (.int .i64 (IntKind.i64.wrap ((k : Int) + 1))) (.int .i64 ((k + 1 : Nat) : Int)) Zk (by rw [Kc hlt Zo]) ?_
 refine K0.next (⟨(k + 1, x.1), by show k + 1 ≤ n; omega, hst⟩) Zk (by show n - (k + 1) < n - k; omega) ⟨Zk, Zk, Zk⟩ (fun u h => trivial)
theorem vstops_v (hB : (Mv P.stops && Ri P.spread) = B) (hp : PRd P q K w) : Calls Tryz.prog 115 #[pnV P q] w (K5 w (fun _ : Unit => .bool B) fun _ _ => True) := by
 cases h1 : Mv P.stops
 ·
  refine K0.enter Tryz.func115 rfl ?_
  refine ZR ?_
  refine ZC (fun w1 hw h => gvalid_v (c := q.sc) h1 (hp.st.below hw)) fun u => ?_
  exact ZX (.bool false) (by rw [← hB, h1]; rfl)
 cases h2 : Ri P.spread
 ·
  refine K0.enter Tryz.func115 rfl ?_
  refine ZR ?_
  refine ZC (fun w1 hw h => gvalid_v (c := q.sc) h1 (hp.st.below hw)) fun u => ?_
  refine ZC (fun w1 hw h => spread_v (x := P.spread) h2) fun u2 => ?_
  exact ZX (.bool false) (by rw [← hB, h1, h2]; rfl)
 ·
  refine K0.enter Tryz.func115 rfl ?_
  refine ZR ?_
  refine ZC (fun w1 hw h => gvalid_v (c := q.sc) h1 (hp.st.below hw)) fun u => ?_
  refine ZC (fun w1 hw h => spread_v (x := P.spread) h2) fun u2 => ?_
  exact ZX (.bool true) (by rw [← hB, h1, h2]; rfl)
theorem eqnil_st (hB : decide (n = 0) = B) : Calls Tryz.prog 163 #[.slice A n c, .slice none 0 0] w (K5 w (fun _ : Unit => .bool B) fun _ _ => True) := by
 refine K0.enter Tryz.func163 rfl ?_
 refine ZR ?_
 by_cases h0 : n = 0
 case neg =>
  refine ZJ (((n : Int) != 0)) true (by simpa using h0) ?_
  exact ZX (.bool false) (by rw [← hB, decide_eq_false h0])
 subst h0
 refine ZI false ?_
 refine K0.un Zk ?_
 refine ZR ?_
 refine ZI false ?_
 exact ZX (.bool true) (by rw [← hB]; rfl)
theorem eqnil_px (hB : decide (n = 0) = B) : Calls Tryz.prog 214 #[.slice A n c, .slice none 0 0] w (K5 w (fun _ : Unit => .bool B) fun _ _ => True) := by
 refine K0.enter Tryz.func214 rfl ?_
 refine ZR ?_
 by_cases h0 : n = 0
 case neg =>
  refine ZJ (((n : Int) != 0)) true (by simpa using h0) ?_
  exact ZX (.bool false) (by rw [← hB, decide_eq_false h0])
 subst h0
 refine ZI false ?_
 refine K0.un Zk ?_
 refine ZR ?_
 refine ZI false ?_
 exact ZX (.bool true) (by rw [← hB]; rfl)
theorem imzero_v {y : Option Addr × Nat} (hB : decide (m.w = 0 ∧ m.h = 0 ∧ m.px = []) = B) : Calls Tryz.prog 164 #[imV m y, imV im0 (none, 0)] w (K5 w (fun _ : Unit => .bool B) fun _ _ => True) := by
 refine K0.enter Tryz.func164 rfl ?_
 refine ZS 6 ?_
 by_cases h1 : m.w = 0
 case neg =>
  refine ZT 10 (.bool (m.w == 0)) (.bool false) (by rw [beq_eq_false_iff_ne.2 h1]) ?_
  refine ZV (.bool false) (fun w1 hw h => ⟨(), by rw [← hB, decide_eq_false (fun h => h1 h.1)], hw, fun _ _ _ => trivial⟩)
 refine K0.slot 10 (.bool (m.w == 0)) (.bool true) Zk (by rw [beq_iff_eq.2 h1]) ?_
 refine ZS 13 ?_
 by_cases h2 : m.h = 0
 case neg =>
  refine ZT 17 (.bool (m.h == 0)) (.bool false) (by rw [beq_eq_false_iff_ne.2 h2]) ?_
  refine ZV (.bool false) (fun w1 hw h => ⟨(), by rw [← hB, decide_eq_false (fun h => h2 h.2.1)], hw, fun _ _ _ => trivial⟩)
 refine ZT 17 (.bool (m.h == 0)) (.bool true) (by rw [beq_iff_eq.2 h2]) ?_
 refine ZC (fun w1 hw h => eqnil_px (A := y.1) (c := y.2) (n := m.px.length) (B := B) (by rw [← hB]; apply decide_eq_decide.2; rw [List.length_eq_zero_iff]; exact ⟨fun h => ⟨h1, h2, h⟩, fun h => h.2.2⟩)) fun u => ?_
 exact ZW (.bool B)
theorem Uc {a b : Operand} (hB : decide (x = 0 ∧ y = 0) = B) : (eqP 53 a b (pt x y) (pt 0 0)).run Tryz.prog w = .ok (.value (.bool B)) w := by
 rw [run_eqP, ← hB]
 congr 2
 rw [Value.bool.injEq, Bool.eq_iff_iff]; simp
theorem eqz_v (hB : decide (S7 P) = B) (hk : P.kind = k) (hT : P.T = Qc) (hp : PRd P q K w) (hK : 2 ≤ K ∧ K ≤ 10000000) : Calls Tryz.prog 111 #[pnV P q, pnV (⟨k, co0, 0, 0, 0, 0, 0, [], 0, im0, 0, Qc⟩ : Pn) pm0] w (K5 w (fun _ : Unit => .bool B) fun _ _ => True) := by
 refine K0.enter Tryz.func111 rfl ?_
 refine ZS 6 ?_
 refine K0.slot 10 (.bool (P.kind == k)) (.bool true) Zk (by rw [beq_iff_eq.2 hk]) ?_
 refine ZS 10 ?_
 by_cases cco : P.co = co0
 case neg =>
  refine ZA (eqP 23 (.tmp 12) (.tmp 14) (S5 P.co) (S5 co0)) (.bool false) (fun w1 hw h => P9 (decide_eq_false cco)) ?_
  refine ZV (.bool false) (fun w1 hw h => ⟨(), by rw [← hB, decide_eq_false (fun h : S7 P => cco h.1)], hw, fun _ _ _ => trivial⟩)
 refine K0.ask (eqP 23 (.tmp 12) (.tmp 14) (S5 P.co) (S5 co0)) (.bool true) Zk (fun w1 hw h => P9 (decide_eq_true cco)) ?_
 refine ZS 17 ?_
 by_cases cp0 : P.p0x = 0 ∧ P.p0y = 0
 case neg =>
  refine ZA (eqP 53 (.tmp 19) (.tmp 21) (pt P.p0x P.p0y) (pt 0 0)) (.bool false) (fun w1 hw h => Uc (decide_eq_false cp0)) ?_
  refine ZV (.bool false) (fun w1 hw h => ⟨(), by rw [← hB, decide_eq_false (fun h : S7 P => cp0 h.2.1)], hw, fun _ _ _ => trivial⟩)
 refine K0.ask (eqP 53 (.tmp 19) (.tmp 21) (pt P.p0x P.p0y) (pt 0 0)) (.bool true) Zk (fun w1 hw h => Uc (decide_eq_true cp0)) ?_
 refine ZS 24 ?_
 by_cases cp1 : P.p1x = 0 ∧ P.p1y = 0
 case neg =>
  refine ZA (eqP 53 (.tmp 26) (.tmp 28) (pt P.p1x P.p1y) (pt 0 0)) (.bool false) (fun w1 hw h => Uc (decide_eq_false cp1)) ?_
  refine ZV (.bool false) (fun w1 hw h => ⟨(), by rw [← hB, decide_eq_false (fun h : S7 P => cp1 h.2.2.1)], hw, fun _ _ _ => trivial⟩)
 refine K0.ask (eqP 53 (.tmp 26) (.tmp 28) (pt P.p1x P.p1y) (pt 0 0)) (.bool true) Zk (fun w1 hw h => Uc (decide_eq_true cp1)) ?_
 refine ZS 34 ?_
 by_cases crad : P.rad = 0
 case neg =>
  refine ZT 38 (.bool (P.rad == 0)) (.bool false) (by rw [beq_eq_false_iff_ne.2 crad]) ?_
  refine ZV (.bool false) (fun w1 hw h => ⟨(), by rw [← hB, decide_eq_false (fun h : S7 P => crad h.2.2.2.1)], hw, fun _ _ _ => trivial⟩)
 refine K0.slot 38 (.bool (P.rad == 0)) (.bool true) Zk (by rw [beq_iff_eq.2 crad]) ?_
 refine ZS 41 ?_
 by_cases cspr : P.spread = 0
 case neg =>
  refine ZT 45 (.bool (P.spread == 0)) (.bool false) (by rw [beq_eq_false_iff_ne.2 cspr]) ?_
  refine ZV (.bool false) (fun w1 hw h => ⟨(), by rw [← hB, decide_eq_false (fun h : S7 P => cspr h.2.2.2.2.1)], hw, fun _ _ _ => trivial⟩)
 refine K0.slot 45 (.bool (P.spread == 0)) (.bool true) Zk (by rw [beq_iff_eq.2 cspr]) ?_
 refine ZS 48 ?_
 by_cases csam : P.samp = 0
 case neg =>
  refine ZT 52 (.bool (P.samp == 0)) (.bool false) (by rw [beq_eq_false_iff_ne.2 csam]) ?_
  refine ZV (.bool false) (fun w1 hw h => ⟨(), by rw [← hB, decide_eq_false (fun h : S7 P => csam h.2.2.2.2.2.1)], hw, fun _ _ _ => trivial⟩)
 refine ZT 52 (.bool (P.samp == 0)) (.bool true) (by rw [beq_iff_eq.2 csam]) ?_
 by_cases cst : P.stops = []
 case neg =>
  refine ZC (fun w1 hw h => eqnil_st (A := q.sA) (c := q.sc) (n := P.stops.length) (B := false) (decide_eq_false fun h => cst (List.length_eq_zero_iff.1 h))) fun u => ?_
  refine ZV (.bool false) (fun w1 hw h => ⟨(), by rw [← hB, decide_eq_false (fun h : S7 P => cst h.2.2.2.2.2.2.1)], hw, fun _ _ _ => trivial⟩)
 refine ZC (fun w1 hw h => eqnil_st (A := q.sA) (c := q.sc) (n := P.stops.length) (B := true) (decide_eq_true (List.length_eq_zero_iff.2 cst))) fun u => ?_
 by_cases cim : P.im.w = 0 ∧ P.im.h = 0 ∧ P.im.px = []
 case neg =>
  refine ZC (fun w1 hw h => imzero_v (m := P.im) (y := (q.xA, q.xc)) (decide_eq_false cim)) fun u => ?_
  refine ZV (.bool false) (fun w1 hw h => ⟨(), by rw [← hB, decide_eq_false (fun h : S7 P => cim h.2.2.2.2.2.2.2)], hw, fun _ _ _ => trivial⟩)
 refine ZC (fun w1 hw h => imzero_v (m := P.im) (y := (q.xA, q.xc)) (decide_eq_true cim)) fun u1 => ?_
 refine ZC (fun w1 hw h => by have t := equalA_m (hp.tr.below hw) (IsA.zero (w := w1)) hK; rw [hT, eqA_rfl] at t; exact t) fun u2 => ?_
 exact ZX (.bool true) (by rw [← hB, decide_eq_true (show S7 P from ⟨cco, cp0, cp1, crad, cspr, csam, cst, cim⟩)])
def Tm (P : Pn) (q : PM) : PM :=
 if P.kind = 1 then ⟨q.sA, q.sc, q.xA, q.xc, tv0⟩ else if P.kind = 2 then ⟨none, 0, q.xA, q.xc, tv0⟩ else if P.kind = 3 then ⟨none, 0, q.xA, q.xc, tv0⟩ else if P.kind = 4 then ⟨q.sA, q.sc, none, 0, tv0⟩ else ⟨q.sA, q.sc, q.xA, q.xc, tv0⟩
theorem PRd.wofR (h : PRd P q K w) : PRd (Zr P) (Tm P q) K w := by
 by_cases h1 : P.kind = 1
 case pos =>
  have e : Zr P = (⟨P.kind, co0, P.p0x, P.p0y, P.p1x, P.p1y, P.rad, P.stops, P.spread, P.im, P.samp, Qc⟩ : Pn) := by unfold Zr; rw [if_pos h1]
  have e2 : Tm P q = (⟨q.sA, q.sc, q.xA, q.xc, tv0⟩ : PM) := by unfold Tm; rw [if_pos h1]
  rw [e, e2]
  exact ⟨h.st, h.px, .zero⟩
 by_cases h2 : P.kind = 2
 case pos =>
  have e : Zr P = (⟨P.kind, P.co, 0, 0, 0, 0, P.rad, [], 0, P.im, P.samp, Qc⟩ : Pn) := by unfold Zr; rw [if_neg h1]; rw [if_pos h2]
  have e2 : Tm P q = (⟨none, 0, q.xA, q.xc, tv0⟩ : PM) := by unfold Tm; rw [if_neg h1]; rw [if_pos h2]
  rw [e, e2]
  exact ⟨⟨rfl, fun k x h => by simp at h⟩, h.px, .zero⟩
 by_cases h3 : P.kind = 3
 case pos =>
  have e : Zr P = (⟨P.kind, P.co, 0, 0, P.p1x, P.p1y, 0, [], 0, P.im, P.samp, Qc⟩ : Pn) := by unfold Zr; rw [if_neg h1]; rw [if_neg h2]; rw [if_pos h3]
  have e2 : Tm P q = (⟨none, 0, q.xA, q.xc, tv0⟩ : PM) := by unfold Tm; rw [if_neg h1]; rw [if_neg h2]; rw [if_pos h3]
  rw [e, e2]
  exact ⟨⟨rfl, fun k x h => by simp at h⟩, h.px, .zero⟩
 by_cases h4 : P.kind = 4
 case pos =>
  have e : Zr P = (⟨P.kind, P.co, P.p0x, P.p0y, P.p1x, P.p1y, P.rad, P.stops, 0, im0, 0, Qc⟩ : Pn) := by unfold Zr; rw [if_neg h1]; rw [if_neg h2]; rw [if_neg h3]; rw [if_pos h4]
  have e2 : Tm P q = (⟨q.sA, q.sc, none, 0, tv0⟩ : PM) := by unfold Tm; rw [if_neg h1]; rw [if_neg h2]; rw [if_neg h3]; rw [if_pos h4]
  rw [e, e2]
  exact ⟨h.st, ⟨rfl, fun k x h => by simp [im0] at h⟩, .zero⟩
 have e : Zr P = (⟨P.kind, P.co, P.p0x, P.p0y, P.p1x, P.p1y, P.rad, P.stops, P.spread, P.im, P.samp, Qc⟩ : Pn) := by unfold Zr; rw [if_neg h1, if_neg h2, if_neg h3, if_neg h4]
 have e2 : Tm P q = (⟨q.sA, q.sc, q.xA, q.xc, tv0⟩ : PM) := by unfold Tm; rw [if_neg h1, if_neg h2, if_neg h3, if_neg h4]
 rw [e, e2]
 exact ⟨h.st, h.px, .zero⟩
theorem wof_m : Calls Tryz.prog 112 #[pnV P q] w (K5 w (fun _ : Unit => pnV (Zr P) (Tm P q)) fun _ _ => True) := by
 refine K0.enter Tryz.func112 rfl ?_
 refine ZR ?_
 by_cases h1 : P.kind = 1
 case pos =>
  have e : Zr P = (⟨P.kind, co0, P.p0x, P.p0y, P.p1x, P.p1y, P.rad, P.stops, P.spread, P.im, P.samp, Qc⟩ : Pn) := by unfold Zr; rw [if_pos h1]
  have e2 : Tm P q = (⟨q.sA, q.sc, q.xA, q.xc, tv0⟩ : PM) := by unfold Tm; rw [if_pos h1]
  rw [e, e2]
  refine ZJ ((P.kind == 1)) true (beq_iff_eq.2 h1) ?_
  exact ZW (pnV (⟨P.kind, co0, P.p0x, P.p0y, P.p1x, P.p1y, P.rad, P.stops, P.spread, P.im, P.samp, Qc⟩ : Pn) (⟨q.sA, q.sc, q.xA, q.xc, tv0⟩ : PM))
 refine ZJ ((P.kind == 1)) false (beq_eq_false_iff_ne.2 h1) ?_
 by_cases h2 : P.kind = 2
 case pos =>
  have e : Zr P = (⟨P.kind, P.co, 0, 0, 0, 0, P.rad, [], 0, P.im, P.samp, Qc⟩ : Pn) := by unfold Zr; rw [if_neg h1]; rw [if_pos h2]
  have e2 : Tm P q = (⟨none, 0, q.xA, q.xc, tv0⟩ : PM) := by unfold Tm; rw [if_neg h1]; rw [if_pos h2]
  rw [e, e2]
  refine ZJ ((P.kind == 2)) true (beq_iff_eq.2 h2) ?_
  exact ZW (pnV (⟨P.kind, P.co, 0, 0, 0, 0, P.rad, [], 0, P.im, P.samp, Qc⟩ : Pn) (⟨none, 0, q.xA, q.xc, tv0⟩ : PM))
 refine ZJ ((P.kind == 2)) false (beq_eq_false_iff_ne.2 h2) ?_
 by_cases h3 : P.kind = 3
 case pos =>
  have e : Zr P = (⟨P.kind, P.co, 0, 0, P.p1x, P.p1y, 0, [], 0, P.im, P.samp, Qc⟩ : Pn) := by unfold Zr; rw [if_neg h1]; rw [if_neg h2]; rw [if_pos h3]
  have e2 : Tm P q = (⟨none, 0, q.xA, q.xc, tv0⟩ : PM) := by unfold Tm; rw [if_neg h1]; rw [if_neg h2]; rw [if_pos h3]
  rw [e, e2]
  refine ZJ ((P.kind == 3)) true (beq_iff_eq.2 h3) ?_
  exact ZW (pnV (⟨P.kind, P.co, 0, 0, P.p1x, P.p1y, 0, [], 0, P.im, P.samp, Qc⟩ : Pn) (⟨none, 0, q.xA, q.xc, tv0⟩ : PM))
 refine ZJ ((P.kind == 3)) false (beq_eq_false_iff_ne.2 h3) ?_
 by_cases h4 : P.kind = 4
 case pos =>
  have e : Zr P = (⟨P.kind, P.co, P.p0x, P.p0y, P.p1x, P.p1y, P.rad, P.stops, 0, im0, 0, Qc⟩ : Pn) := by unfold Zr; rw [if_neg h1]; rw [if_neg h2]; rw [if_neg h3]; rw [if_pos h4]
  have e2 : Tm P q = (⟨q.sA, q.sc, none, 0, tv0⟩ : PM) := by unfold Tm; rw [if_neg h1]; rw [if_neg h2]; rw [if_neg h3]; rw [if_pos h4]
  rw [e, e2]
  refine ZJ ((P.kind == 4)) true (beq_iff_eq.2 h4) ?_
  exact ZW (pnV (⟨P.kind, P.co, P.p0x, P.p0y, P.p1x, P.p1y, P.rad, P.stops, 0, im0, 0, Qc⟩ : Pn) (⟨q.sA, q.sc, none, 0, tv0⟩ : PM))
 have e : Zr P = (⟨P.kind, P.co, P.p0x, P.p0y, P.p1x, P.p1y, P.rad, P.stops, P.spread, P.im, P.samp, Qc⟩ : Pn) := by unfold Zr; rw [if_neg h1, if_neg h2, if_neg h3, if_neg h4]
 have e2 : Tm P q = (⟨q.sA, q.sc, q.xA, q.xc, tv0⟩ : PM) := by unfold Tm; rw [if_neg h1, if_neg h2, if_neg h3, if_neg h4]
 rw [e, e2]
 refine ZJ ((P.kind == 4)) false (beq_eq_false_iff_ne.2 h4) ?_
 exact ZW (pnV (⟨P.kind, P.co, P.p0x, P.p0y, P.p1x, P.p1y, P.rad, P.stops, P.spread, P.im, P.samp, Qc⟩ : Pn) (⟨q.sA, q.sc, q.xA, q.xc, tv0⟩ : PM))
theorem below_kind : (Zr P).kind = P.kind ∧ (Zr P).T = Qc := by
 unfold Zr
 by_cases h1 : P.kind = 1
 ·rw [if_pos h1]; exact ⟨rfl, rfl⟩
 rw [if_neg h1]
 by_cases h2 : P.kind = 2
 ·rw [if_pos h2]; exact ⟨rfl, rfl⟩
 rw [if_neg h2]
 by_cases h3 : P.kind = 3
 ·rw [if_pos h3]; exact ⟨rfl, rfl⟩
 rw [if_neg h3]
 by_cases h4 : P.kind = 4
 ·rw [if_pos h4]; exact ⟨rfl, rfl⟩
 rw [if_neg h4]; exact ⟨rfl, rfl⟩
theorem pvec_v {X Y : Int} (hB : L0 X Y = B) : Calls Tryz.prog 114 #[pt X Y] w (K5 w (fun _ : Unit => .bool B) fun _ _ => True) := by subst hB; exact valid_m
theorem U0 {r : Rat} : (Rc r ((0 : Int) : Rat) != 0) = decide (r ≠ 0) := by
 rw [Q7 rfl]
 rw [Bool.eq_iff_iff]; simp
theorem pvalid_v (hB : Kt P = B) (hp : PRd P q K w) (hl : P.im.px.length ≤ 1000000000) (hK : 2 ≤ K ∧ K ≤ 10000000) : Calls Tryz.prog 61 #[pnV P q] w (K5 w (fun _ : Unit => .bool B) fun _ _ => True) := by
 unfold Kt at hB
 obtain ⟨hwk, hwT⟩ := below_kind (P := P)
 refine K0.enter Tryz.func61 rfl ?_
 refine ZR ?_
 cases h1 : P.T.ok
 ·rw [h1, Bool.false_and] at hB
  refine ZC (fun w1 hw h => validA_v h1 (hp.tr.below hw) hK) fun u => ?_
  refine ZR ?_
  refine ZI true ?_
  exact ZX (.bool false) (by rw [← hB])
 rw [h1, Bool.true_and] at hB
 refine ZC (fun w1 hw h => validA_v h1 (hp.tr.below hw) hK) fun u => ?_
 refine ZC (fun w1 hw h => wof_m (P := P) (q := q)) fun u2 => ?_
 cases h2 : decide (S7 (Zr P))
 ·rw [h2, Bool.false_and] at hB
  refine ZC (fun w1 hw h => eqz_v (k := P.kind) h2 hwk hwT (hp.below hw).wofR hK) fun u3 => ?_
  refine ZR ?_
  refine ZI true ?_
  exact ZX (.bool false) (by rw [← hB])
 rw [h2, Bool.true_and] at hB
 unfold kindOK at hB
 have hdet : ∀ w1 : World, PRd P q K w1 → ∀ v : RV, Ob v P.T.det (4 * K + 1) w1 → Calls Tryz.prog 118 #[v.val, RV0.val] w1 (K5 w1 (fun _ : Unit => .int .i64 (Rc P.T.det ((0 : Int) : Rat))) fun _ _ => True) := fun w1 _ v hv => Xr hv.q (isq0 (K := 2)) Zo
 refine ZC (fun w1 hw h => eqz_v (k := P.kind) h2 hwk hwT (hp.below hw).wofR hK) fun u3 => ?_
 refine ZR ?_
 refine ZI false ?_
 by_cases k1 : P.kind = 1
 case pos =>
  rw [if_pos k1] at hB
  refine ZJ ((P.kind == 1)) true (beq_iff_eq.2 k1) ?_
  refine ZC (fun w1 hw h => equalA_m (hp.tr.below hw) (IsA.zero (w := w1)) hK) fun u4 => ?_
  exact ZX (.bool (eqA P.T Qc)) (by rw [← hB])
 refine ZJ ((P.kind == 1)) false (beq_eq_false_iff_ne.2 k1) ?_
 by_cases k2 : P.kind = 2
 case pos =>
  rw [if_neg k1, if_pos k2] at hB
  refine ZJ ((P.kind == 2)) true (beq_iff_eq.2 k2) ?_
  cases c1 : L0 P.p0x P.p0y
  ·rw [c1, Bool.false_and] at hB
   refine ZC (fun w1 hw h => pvec_v c1) fun x1 => ?_
   refine ZR ?_
   refine ZI true ?_
   exact ZX (.bool false) (by rw [← hB])
  rw [c1, Bool.true_and] at hB
  refine ZC (fun w1 hw h => pvec_v c1) fun x1 => ?_
  cases c2 : L0 P.p1x P.p1y
  ·rw [c2, Bool.false_and] at hB
   refine ZC (fun w1 hw h => pvec_v c2) fun x2 => ?_
   refine ZR ?_
   refine ZI true ?_
   exact ZX (.bool false) (by rw [← hB])
  rw [c2, Bool.true_and] at hB
  refine ZC (fun w1 hw h => pvec_v c2) fun x2 => ?_
  cases c3 : (Mv P.stops && Ri P.spread)
  ·rw [c3, Bool.false_and] at hB
   refine ZC (fun w1 hw h => vstops_v c3 (hp.below hw)) fun x3 => ?_
   refine ZR ?_
   refine ZI true ?_
   exact ZX (.bool false) (by rw [← hB])
  rw [c3, Bool.true_and] at hB
  refine ZC (fun w1 hw h => vstops_v c3 (hp.below hw)) fun x3 => ?_
  refine ZR ?_
  refine ZI false ?_
  refine ZC (fun w1 hw h => detA_m (hp.tr.below hw) hK) fun u9 => ?_
  refine ZC (fun w1 hw h => hdet w1 (hp.below hw) u9 h.2) fun v9 => ?_
  exact ZX (.bool (Rc P.T.det ((0 : Int) : Rat) != 0)) (by rw [U0, ← hB])
 refine ZJ ((P.kind == 2)) false (beq_eq_false_iff_ne.2 k2) ?_
 by_cases k3 : P.kind = 3
 case pos =>
  rw [if_neg k1, if_neg k2, if_pos k3] at hB
  refine ZJ ((P.kind == 3)) true (beq_iff_eq.2 k3) ?_
  cases c1 : L0 P.p0x P.p0y
  ·rw [c1, Bool.false_and] at hB
   refine ZC (fun w1 hw h => pvec_v c1) fun x1 => ?_
   refine ZR ?_
   refine ZI true ?_
   exact ZX (.bool false) (by rw [← hB])
  rw [c1, Bool.true_and] at hB
  refine ZD 10 (fun w1 hw h => pvec_v c1) fun x1 => ?_
  by_cases r1 : P.rad < 1
  case pos =>
   rw [show decide (1 ≤ P.rad ∧ P.rad ≤ 1048576) = false from decide_eq_false Zo, Bool.false_and] at hB
   refine ZT 52 (.bool (decide (P.rad < 1))) (.bool true) (by rw [decide_eq_true r1]) ?_
   refine ZI true ?_
   exact ZX (.bool false) (by rw [← hB])
  refine K0.slot 52 (.bool (decide (P.rad < 1))) (.bool false) Zk (by rw [decide_eq_false r1]) ?_
  refine ZS 15 ?_
  by_cases r2 : P.rad > 1048576
  case pos =>
   rw [show decide (1 ≤ P.rad ∧ P.rad ≤ 1048576) = false from decide_eq_false Zo, Bool.false_and] at hB
   refine ZT 57 (.bool (decide (P.rad > 1048576))) (.bool true) (by rw [decide_eq_true r2]) ?_
   refine ZI true ?_
   exact ZX (.bool false) (by rw [← hB])
  rw [show decide (1 ≤ P.rad ∧ P.rad ≤ 1048576) = true from decide_eq_true Zo, Bool.true_and] at hB
  refine ZT 57 (.bool (decide (P.rad > 1048576))) (.bool false) (by rw [decide_eq_false r2]) ?_
  cases c3 : (Mv P.stops && Ri P.spread)
  ·rw [c3, Bool.false_and] at hB
   refine ZC (fun w1 hw h => vstops_v c3 (hp.below hw)) fun x3 => ?_
   refine ZR ?_
   refine ZI true ?_
   exact ZX (.bool false) (by rw [← hB])
  rw [c3, Bool.true_and] at hB
  refine ZC (fun w1 hw h => vstops_v c3 (hp.below hw)) fun x3 => ?_
  refine ZR ?_
  refine ZI false ?_
  refine ZC (fun w1 hw h => detA_m (hp.tr.below hw) hK) fun u9 => ?_
  refine ZC (fun w1 hw h => hdet w1 (hp.below hw) u9 h.2) fun v9 => ?_
  exact ZX (.bool (Rc P.T.det ((0 : Int) : Rat) != 0)) (by rw [U0, ← hB])
 refine ZJ ((P.kind == 3)) false (beq_eq_false_iff_ne.2 k3) ?_
 by_cases k4 : P.kind = 4
 case pos =>
  rw [if_neg k1, if_neg k2, if_neg k3, if_pos k4] at hB
  refine ZJ ((P.kind == 4)) true (beq_iff_eq.2 k4) ?_
  cases c1 : Uy P.im
  ·rw [c1, Bool.false_and] at hB
   refine ZC (fun w1 hw h => imvalid_v (y := (q.xA, q.xc)) c1 (hp.px.below hw) hl) fun x1 => ?_
   refine ZR ?_
   refine ZI true ?_
   exact ZX (.bool false) (by rw [← hB])
  rw [c1, Bool.true_and] at hB
  refine ZD 9 (fun w1 hw h => imvalid_v (y := (q.xA, q.xc)) c1 (hp.px.below hw) hl) fun x1 => ?_
  by_cases s0 : P.spread = 0
  case pos =>
   rw [decide_eq_true s0, Bool.true_or, Bool.true_and] at hB
   refine K0.slot 72 (.bool (P.spread != 0)) (.bool false) Zk (by rw [bne_eq_false_iff_eq.2 s0]) ?_
   refine ZS 20 ?_
   by_cases m1 : P.samp = 1
   case pos =>
    rw [decide_eq_true (.inl m1), Bool.true_and] at hB
    refine ZT 83 (.bool (P.samp != 1)) (.bool false) (by rw [bne_eq_false_iff_eq.2 m1]) ?_
    refine ZI false ?_
    refine ZC (fun w1 hw h => detA_m (hp.tr.below hw) hK) fun u9 => ?_
    refine ZC (fun w1 hw h => hdet w1 (hp.below hw) u9 h.2) fun v9 => ?_
    exact ZX (.bool (Rc P.T.det ((0 : Int) : Rat) != 0)) (by rw [U0, ← hB])
   refine ZT 83 (.bool (P.samp != 1)) (.bool true) (by rw [bne_iff_ne.2 m1]) ?_
   by_cases m2 : P.samp = 2
   case pos =>
    rw [decide_eq_true (.inr m2), Bool.true_and] at hB
    refine ZJ ((P.samp != 2)) false (bne_eq_false_iff_eq.2 m2) ?_
    refine ZC (fun w1 hw h => detA_m (hp.tr.below hw) hK) fun u9 => ?_
    refine ZC (fun w1 hw h => hdet w1 (hp.below hw) u9 h.2) fun v9 => ?_
    exact ZX (.bool (Rc P.T.det ((0 : Int) : Rat) != 0)) (by rw [U0, ← hB])
   rw [show decide (P.samp = 1 ∨ P.samp = 2) = false from decide_eq_false (fun h => h.elim m1 m2), Bool.false_and] at hB
   refine ZJ ((P.samp != 2)) true (bne_iff_ne.2 m2) ?_
   exact ZX (.bool false) (by rw [← hB])
  rw [decide_eq_false s0, Bool.false_or] at hB
  refine ZT 72 (.bool (P.spread != 0)) (.bool true) (by rw [bne_iff_ne.2 s0]) ?_
  cases c2 : Ri P.spread
  ·rw [c2, Bool.false_and] at hB
   refine ZC (fun w1 hw h => spread_v c2) fun x2 => ?_
   refine ZR ?_
   refine ZI true ?_
   exact ZX (.bool false) (by rw [← hB])
  rw [c2, Bool.true_and] at hB
  refine ZD 20 (fun w1 hw h => spread_v c2) fun x2 => ?_
  by_cases m1 : P.samp = 1
  case pos =>
   rw [decide_eq_true (.inl m1), Bool.true_and] at hB
   refine ZT 83 (.bool (P.samp != 1)) (.bool false) (by rw [bne_eq_false_iff_eq.2 m1]) ?_
   refine ZI false ?_
   refine ZC (fun w1 hw h => detA_m (hp.tr.below hw) hK) fun u9 => ?_
   refine ZC (fun w1 hw h => hdet w1 (hp.below hw) u9 h.2) fun v9 => ?_
   exact ZX (.bool (Rc P.T.det ((0 : Int) : Rat) != 0)) (by rw [U0, ← hB])
  refine ZT 83 (.bool (P.samp != 1)) (.bool true) (by rw [bne_iff_ne.2 m1]) ?_
  by_cases m2 : P.samp = 2
  case pos =>
   rw [decide_eq_true (.inr m2), Bool.true_and] at hB
   refine ZJ ((P.samp != 2)) false (bne_eq_false_iff_eq.2 m2) ?_
   refine ZC (fun w1 hw h => detA_m (hp.tr.below hw) hK) fun u9 => ?_
   refine ZC (fun w1 hw h => hdet w1 (hp.below hw) u9 h.2) fun v9 => ?_
   exact ZX (.bool (Rc P.T.det ((0 : Int) : Rat) != 0)) (by rw [U0, ← hB])
  rw [show decide (P.samp = 1 ∨ P.samp = 2) = false from decide_eq_false (fun h => h.elim m1 m2), Bool.false_and] at hB
  refine ZJ ((P.samp != 2)) true (bne_iff_ne.2 m2) ?_
  exact ZX (.bool false) (by rw [← hB])
 rw [if_neg k1, if_neg k2, if_neg k3, if_neg k4] at hB
 refine ZJ ((P.kind == 4)) false (beq_eq_false_iff_ne.2 k4) ?_
 exact ZX (.bool false) (by rw [← hB])
end
section
variable {P : Program} {Δ : List Deferred} {W : World} {Q : Exit → Act → World → Prop} {Φ : World → Prop} {c : O5}
def twoReady (i j : Nat) (c : O5) : Bool := match c.foc with
 | .any ops (_ + 1) listed => match Region.ready .any ops listed with
  | [a, b] => Nat.beq a i && Nat.beq b j
  | _ => false
 | _ => false
def GoodAt0 (P : Program) (W : World) (Q : Exit → Act → World → Prop) (i : Nat) (Φ : World → Prop) (c : O5) (Δ : List Deferred) : Prop :=
 match c.foc with
 | .any ops (fuel + 1) listed => Ssa ops → Nq ops listed → c.st.wf → i ∈ Region.ready .any ops listed → ∃ o, ops[i]? = some o ∧ AOp P W ops o (aAny P W ops (fun σ Φ => σ.wf → ∀ β a w, Q1 Δ W β σ Φ a w → post P Q c.k .normal a w) fuel (listed.setIfInBounds i true)) c.st Φ
 | _ => True
structure O0 (P : Program) (W : World) (Q : Exit → Act → World → Prop) (i : Nat) (Φ : World → Prop) (c : O5) (Δ : List Deferred) : Prop where
 get : GoodAt0 P W Q i Φ c Δ
theorem K0.two {i j : Nat} (h : twoReady i j c = true) (hi : O0 P W Q i Φ c Δ) (hj : O0 P W Q j Φ c Δ) : K0 P Δ W Q Φ c := by
 obtain ⟨foc, k, σ⟩ := c
 refine ⟨?_⟩
 unfold twoReady at h
 simp only at h
 split at h
 ·rename_i ops fuel listed
  split at h
  ·rename_i a b hrd
   simp only [Bool.and_eq_true, Nat.beq_eq] at h
   obtain ⟨rfl, rfl⟩ := h
   intro hssa hcl hwf
   refine ⟨fun h0 => (by rw [h0] at hrd; cases hrd), fun x hx => ?_⟩
   have hx2 := hx
   rw [hrd] at hx2
   rcases List.mem_cons.1 hx2 with rfl | hx2
   ·exact hi.get hssa hcl hwf hx
   ·obtain rfl : x = b := by simpa using hx2
    exact hj.get hssa hcl hwf hx
  ·cases h
 ·cases h
def callAtV (P : Program) (i : Nat) (c : O5) : Option (FuncId × Array Value) :=
 match c.foc with
 | .any ops (_ + 1) _ => match ops[i]? with
  | some o => if Ku ops o c.st then (match X7 P o c.st with
   | some (g, xs) => match allV xs with
    | some vs => some (g, vs.toArray)
    | none => none
   | none => none) else none
  | none => none
 | _ => none
theorem O0.callv {X : Type} {i : Nat} {g : FuncId} {args : Array Value} {val : X → Value} {G : X → World → Prop}
 (hs : ∀ w, Below W.heap.size W w → Φ w → Calls P g args w (K5 w val G)) (hc : callAtV P i c = some (g, args))
 (h : ∀ x : X, K0 P Δ W Q (fun w => Φ w ∧ G x w) (V5 i (val x) c)) : O0 P W Q i Φ c Δ := by
 obtain ⟨foc, k, σ⟩ := c
 replace h := fun x => (h x).get
 refine ⟨?_⟩
 unfold callAtV at hc
 simp only at hc
 split at hc
 ·rename_i ops fuel listed
  split at hc
  ·rename_i o ho
   split at hc
   ·rename_i hw
    split at hc
    ·rename_i g' xs hn
     split at hc
     ·rename_i vs hv
      injection hc with hc
      injection hc with h1 h2
      subst h1; subst h2
      intro hssa hcl hwf hr
      obtain ⟨_, o', ho', hall⟩ := mem_ready.1 hr
      obtain rfl : o = o' := by rw [ho] at ho'; injection ho'
      refine ⟨o, ho, .call g' xs val G hw hn (fun β w hb hΦ _ => by rw [Qy hv]; exact hs w hb hΦ) fun x => ?_⟩
      have := h x
      simp only [V5, ho, Option.bind_some, Nat.add_one_sub_one] at this
      exact this hssa (hcl.set_ ho hall) (hwf.put _ (by intro k hk; simp [AV.ids] at hk))
     ·cases hc
    ·cases hc
   ·cases hc
  ·cases hc
 ·cases hc
def semAt (i : Nat) (c : O5) : Option (Sem Next) :=
 match c.foc with
 | .any ops (_ + 1) _ => match ops[i]? with
  | some o => match o.op with
   | .select _ _ => none
   | _ => if Ku ops o c.st && c.st.plain o.op then some (execOp c.st.rho o) else none
  | none => none
 | _ => none
theorem O0.make {X : Type} {i : Nat} (s : Sem Next) (val : X → Value) (G : X → World → Prop) (hc : semAt i c = some s) (hs : ∀ w, Below W.heap.size W w → Φ w → Le P w val G s) (h : ∀ x, K0 P Δ W Q (fun w => Φ w ∧ G x w) (V5 i (val x) c)) : O0 P W Q i Φ c Δ := by
 obtain ⟨foc, k, σ⟩ := c
 replace h := fun x => (h x).get
 refine ⟨?_⟩
 unfold semAt at hc
 simp only at hc
 split at hc
 ·rename_i ops fuel listed
  split at hc
  ·rename_i o ho
   split at hc
   ·cases hc
   ·rename_i hns
    split at hc
    ·rename_i hw
     simp only [Bool.and_eq_true] at hw
     injection hc with hc
     subst hc
     intro hssa hcl hwf hr
     obtain ⟨_, o', ho', hall⟩ := mem_ready.1 hr
     obtain rfl : o = o' := by rw [ho] at ho'; injection ho'
     refine ⟨o, ho, .make val G hw.1 hw.2 (fun cs b e => hns cs b e) hs fun x => ?_⟩
     have := h x
     simp only [V5, ho, Option.bind_some, Nat.add_one_sub_one] at this
     exact this hssa (hcl.set_ ho hall) (hwf.put _ (by intro k hk; simp [AV.ids] at hk))
    ·cases hc
  ·cases hc
 ·cases hc
end
section
open Go.RowKit
--ATNAMES
theorem Ow {x y : Int} (h : L0 x y = true) : (-1048576 ≤ x ∧ x ≤ 1048576) ∧ (-1048576 ≤ y ∧ y ≤ 1048576) := of_decide_eq_true h
theorem Xh : ∀ {l : List (Int × Co)} {a : Int}, 0 ≤ a → Zx a l = true → ∀ x ∈ l, 0 ≤ x.1 ∧ x.1 ≤ 65536
 | [], a, _, _, x, hx => by cases hx
 | y :: l, a, ha, h, x, hx => by
  have h : (decide (a ≤ y.1 ∧ y.1 ≤ 65536) && Zx y.1 l) = true := h
  rw [Bool.and_eq_true, decide_eq_true_iff] at h
  rcases List.mem_cons.1 hx with rfl | hx
  ·omega
  ·exact Xh Zo h.2 x hx
theorem R8 {x : Int} (h : -9223372036854775808 ≤ x ∧ x ≤ 9223372036854775807) : (K6 x).length ≤ 21 := by
 have h2 : x.natAbs < pw 2 := by
  have : pw 2 = 18446744073709551616 := by rfl
  omega
 exact Qg (k := 2) Zd h2
theorem T6 {r : Rat} (h : bitsQ r ≤ 256) : (Ki r).length ≤ 163 := by
 have h1 : r.num.natAbs < pw 8 := bits_8 (by unfold bitsQ at h; omega)
 have h2 : r.den < pw 8 := bits_8 (by unfold bitsQ at h; omega)
 have h3 := Qg (k := 8) Zd h1
 have h4 := Qg (x := (r.den : Int)) (k := 8) Zd (by simpa using h2)
 unfold Ki
 split
 ·omega
 ·simp only [List.length_append, List.length_cons]; omega
theorem affW_len {T : Zm} (h : T.ok = true) : M2 (Lp T) ≤ 978 ∧ (Lp T).length = 6 := by
 obtain ⟨h1, h2, h3, h4, h5, h6⟩ := Zm.ok_bits h
 have k1 := T6 h1; have k2 := T6 h2; have k3 := T6 h3; have k4 := T6 h4; have k5 := T6 h5; have k6 := T6 h6
 refine ⟨?_, rfl⟩
 unfold Lp
 simp only [M2]
 omega
theorem Vd : ∀ l : List (Int × Co), (Tn l).length = 2 * l.length
 | [] => rfl
 | x :: l => by
  have := Vd l
  show (K6 x.1 :: Na x.2 :: Tn l).length = _
  simp only [List.length_cons]; omega
theorem stW_snoc {l : List (Int × Co)} {k : Nat} {x : Int × Co} (h : l[k]? = some x) : Tn (l.take (k + 1)) = Tn (l.take k) ++ [K6 x.1, Na x.2] := by
 unfold Tn
 rw [List.take_add_one, h]; simp
section
variable {w : World} {P : Pn} {q : PM} {K : Nat}
theorem app_row2 {B m yc gb : Nat} {y : Option Addr} {p : WS} {a b : List UInt8} (ho : K7 w B 9 1 y m yc (sv p)) (hB : B ≤ w.heap.size) (hg : Kp 9 #[K3 a, K3 b] gb w) (hm : m < 999990) :
 Pm Tryz.prog w (bl y) (fun z : Option Addr × Nat => .slice z.1 (m + 2) z.2) (fun z v => K7 v B 9 1 z.1 (m + 2) z.2 (sv (p ++ [a, b]))) (Lh 64 64 (.slice y m yc) (Kb 2 gb)) :=
 Me (cc := 2) ho hB (L3 (L := [a, b]) hg rfl) (show m + 2 ≤ 1000000 by omega)
theorem Su (hp : PRd P q K w) (hv : Kt P = true) (hK : 2 ≤ K ∧ K ≤ 1000) (hl : P.im.px.length ≤ 20000) : Calls Tryz.prog 38 #[pnV P q] w (K5 w (fun y : Option Addr × Nat => .slice y.1 (O1 P).length y.2) fun y u => Kj u y.1 (O1 P).length (O1 P)) := by
 unfold Kt at hv
 rw [Bool.and_eq_true, Bool.and_eq_true] at hv
 obtain ⟨hok, hz, hk⟩ := hv
 unfold kindOK at hk
 by_cases k1 : P.kind = 1
 case pos =>
  have e : O1 P = [Qr, Na P.co] := by unfold O1; rw [if_pos k1]
  rw [e]
  refine K0.enter Tryz.func38 rfl ?_
  refine ZR ?_
  refine ZJ ((P.kind == 1)) true (beq_iff_eq.2 k1) ?_
  refine ZD 3 (fun w1 hw h => Y1 (k := P.co)) fun u => ?_
  refine K0.make (Ks (64) 2 #[(0, K3 Qr), (1, K3 (Na P.co))]) (Kb 2) (Kp 9 #[K3 Qr, K3 (Na P.co)]) Zk (fun w1 hw h => K8 Zk) (fun gb => ?_)
  refine ZR ?_
  refine ZV (.slice (some ⟨gb, 0, none⟩) 2 2) (fun w1 hw h => ⟨(some ⟨gb, 0, none⟩, 2), rfl, hw, fun w'' k1 k2 => L3 (L := [Qr, Na P.co]) (h w'' k1 k2).2 rfl⟩)
 by_cases k4 : P.kind = 4
 case pos =>
  rw [if_neg k1, if_neg Zo, if_neg Zo, if_pos k4, Bool.and_eq_true, Bool.and_eq_true, Bool.and_eq_true, Bool.or_eq_true, decide_eq_true_iff, decide_eq_true_iff] at hk
  obtain ⟨hi, hs, hm, _⟩ := hk
  have hs2 : 0 ≤ P.spread ∧ P.spread < 0 + 4 := by
   rcases hs with hs | hs
   ·omega
   ·have := of_decide_eq_true hs; omega
  unfold Uy at hi
  rw [Bool.and_eq_true, Bool.and_eq_true] at hi
  have hsz := of_decide_eq_true hi.1.1
  obtain ⟨x1, hx1⟩ : ∃ x, x = Kd Mp 0 P.spread := ⟨_, rfl⟩
  obtain ⟨x2, hx2⟩ : ∃ x, x = Kd P5 1 P.samp := ⟨_, rfl⟩
  have e : O1 P = ([Kw, x1, x2] ++ Lp P.T) ++ Xy P.im := by unfold O1; rw [if_neg k1, if_pos k4, hx1, hx2]
  rw [e]
  refine K0.enter Tryz.func38 rfl ?_
  refine ZR ?_
  refine ZJ ((P.kind == 1)) false (beq_eq_false_iff_ne.2 k1) ?_
  refine ZJ ((P.kind == 4)) true (beq_iff_eq.2 k4) ?_
  refine ZC (fun w1 hw h => by have t := Xu (w := w1) hs2.1 hs2.2; rw [← hx1] at t; exact t) fun u1 => ?_
  refine ZD 6 (fun w1 hw h => by have t := name_look (w := w1) (z := P.samp) Zo Zo; rw [← hx2] at t; exact t) fun u2 => ?_
  refine K0.two (i := 6) (j := 9) Zk ?_ ?_
  ·
   refine O0.make (i := 6) (Ks (64) 3 #[(0, K3 Kw), (1, K3 x1), (2, K3 x2)]) (Kb 3) (Kp 9 #[K3 Kw, K3 x1, K3 x2]) Zk (fun w1 hw h => K8 Zk) (fun gb => ?_)
   refine ZS 10 ?_
   refine ZD 10 (fun w1 hw h => O8 (N := w.heap.size) hw.size (hp.tr.below hw) hK) fun y => ?_
   refine K0.make (Lh 64 64 (Kb 3 gb) (.slice y.1 6 y.2)) (fun y : Option Addr × Nat => .slice y.1 (3 + 6) y.2) (fun y v => K7 v w.heap.size 9 1 y.1 (3 + 6) y.2 (sv ([Kw, x1, x2] ++ Lp P.T))) Zk (fun w1 hw h => O4 (p := [Kw, x1, x2]) (l := Lp P.T) h.1.2 rfl h.2.strs Zd (Nat.le_of_ble_eq_true rfl) hw.size) (fun z => ?_)
   refine ZR ?_
   refine ZD 4 (fun w1 hw h => Sw (y := (q.xA, q.xc)) (hp.px.below hw) hl Zo Zo) fun v => ?_
   refine K0.mutOp (L := bl z.1) (val := fun (y : Option Addr × Nat) => .slice y.1 (3 + 6 + 3) y.2) (Φ' := fun (y : Option Addr × Nat) u => K7 u w.heap.size 9 1 y.1 (3 + 6 + 3) y.2 (sv (([Kw, x1, x2] ++ Lp P.T) ++ Xy P.im))) (G := fun (y : Option Addr × Nat) u => K7 u w.heap.size 9 1 y.1 (3 + 6 + 3) y.2 (sv (([Kw, x1, x2] ++ Lp P.T) ++ Xy P.im))) (Lh 64 64 (.slice z.1 (3 + 6) z.2) (.slice v.1 3 v.2)) (fun w1 hw h => Me (p := [Kw, x1, x2] ++ Lp P.T) (l := Xy P.im) h.1.2 hw.size h.2 Zd) (fun w1 h => fun b hb => ⟨(h.1.2.lt b hb).1, (h.1.2.blk b hb).2⟩) (fun y wa wb e1 e2 h hG => hG) Zk Zk (fun y2 => ?_)
   refine ZR ?_
   refine ZV (.slice y2.1 (3 + 6 + 3) y2.2) (fun w1 hw h => ⟨y2, rfl, hw, fun w'' k1 k2 => (show K7 w'' w.heap.size 9 1 y2.1 (3 + 6 + 3) y2.2 (sv (([Kw, x1, x2] ++ Lp P.T) ++ Xy P.im)) from h w'' k1 k2).strs⟩)
  ·
   refine O0.callv (i := 9) (fun w1 hw h => O8 (N := w.heap.size) hw.size (hp.tr.below hw) hK) Zk (fun y => ?_)
   refine ZS 6 ?_
   refine K0.make (Ks (64) 3 #[(0, K3 Kw), (1, K3 x1), (2, K3 x2)]) (Kb 3) (Kp 9 #[K3 Kw, K3 x1, K3 x2]) Zk (fun w1 hw h => K8 Zk) (fun gb => ?_)
   refine ZS 10 ?_
   refine K0.make (Lh 64 64 (Kb 3 gb) (.slice y.1 6 y.2)) (fun y : Option Addr × Nat => .slice y.1 (3 + 6) y.2) (fun y v => K7 v w.heap.size 9 1 y.1 (3 + 6) y.2 (sv ([Kw, x1, x2] ++ Lp P.T))) Zk (fun w1 hw h => O4 (p := [Kw, x1, x2]) (l := Lp P.T) h.2 rfl h.1.2.strs Zd (Nat.le_of_ble_eq_true rfl) hw.size) (fun z => ?_)
   refine ZR ?_
   refine ZD 4 (fun w1 hw h => Sw (y := (q.xA, q.xc)) (hp.px.below hw) hl Zo Zo) fun v => ?_
   refine K0.mutOp (L := bl z.1) (val := fun (y : Option Addr × Nat) => .slice y.1 (3 + 6 + 3) y.2) (Φ' := fun (y : Option Addr × Nat) u => K7 u w.heap.size 9 1 y.1 (3 + 6 + 3) y.2 (sv (([Kw, x1, x2] ++ Lp P.T) ++ Xy P.im))) (G := fun (y : Option Addr × Nat) u => K7 u w.heap.size 9 1 y.1 (3 + 6 + 3) y.2 (sv (([Kw, x1, x2] ++ Lp P.T) ++ Xy P.im))) (Lh 64 64 (.slice z.1 (3 + 6) z.2) (.slice v.1 3 v.2)) (fun w1 hw h => Me (p := [Kw, x1, x2] ++ Lp P.T) (l := Xy P.im) h.1.2 hw.size h.2 Zd) (fun w1 h => fun b hb => ⟨(h.1.2.lt b hb).1, (h.1.2.blk b hb).2⟩) (fun y wa wb e1 e2 h hG => hG) Zk Zk (fun y2 => ?_)
   refine ZR ?_
   refine ZV (.slice y2.1 (3 + 6 + 3) y2.2) (fun w1 hw h => ⟨y2, rfl, hw, fun w'' k1 k2 => (show K7 w'' w.heap.size 9 1 y2.1 (3 + 6 + 3) y2.2 (sv (([Kw, x1, x2] ++ Lp P.T) ++ Xy P.im)) from h w'' k1 k2).strs⟩)
 obtain ⟨x1, hx1⟩ : ∃ x, x = Kd Mp 0 P.spread := ⟨_, rfl⟩
 by_cases k2 : P.kind = 2
 case pos =>
  rw [if_neg k1, if_pos k2, Bool.and_eq_true, Bool.and_eq_true, Bool.and_eq_true] at hk
  obtain ⟨hp0, hp1, hst0, _⟩ := hk
  have hr0 := Ow hp0
  have hr1 := Ow hp1
  have hst2 := hst0
  rw [Bool.and_eq_true] at hst2
  have hs2 : 0 ≤ P.spread ∧ P.spread < 0 + 4 := by have := of_decide_eq_true (show decide (1 ≤ P.spread ∧ P.spread ≤ 3) = true from hst2.2); omega
  have hst1 := hst2.1
  unfold Mv at hst1
  rw [Bool.and_eq_true, decide_eq_true_iff] at hst1
  have hst := hst1.2
  have hst16 := hst1.1.2
  have e : O1 P = ([Kx, K6 P.p0x, K6 P.p0y, K6 P.p1x, K6 P.p1y, x1] ++ Lp P.T) ++ Tn P.stops := by unfold O1; rw [if_neg k1, if_neg k4, if_pos k2, hx1]
  rw [e]
  obtain ⟨L1, hL1⟩ : ∃ L : WS, L = [Kx, K6 P.p0x, K6 P.p0y, K6 P.p1x, K6 P.p1y, x1] := ⟨_, rfl⟩
  have hL1n : L1.length = 6 := by rw [hL1]; rfl
  obtain ⟨L2, hL2⟩ : ∃ L : WS, L = ([Kx, K6 P.p0x, K6 P.p0y, K6 P.p1x, K6 P.p1y, x1] ++ Lp P.T) := ⟨_, rfl⟩
  have hL2e : L2 = L1 ++ Lp P.T := by rw [hL2, hL1]
  have hL2n : L2.length = 12 := by rw [hL2e, List.length_append, hL1n]; rfl
  rw [← hL2]
  refine K0.enter Tryz.func38 rfl ?_
  refine ZR ?_
  refine ZJ ((P.kind == 1)) false (beq_eq_false_iff_ne.2 k1) ?_
  refine ZJ ((P.kind == 4)) false (beq_eq_false_iff_ne.2 k4) ?_
  refine ZJ ((P.kind == 2)) true (beq_iff_eq.2 k2) ?_
  refine ZC (fun w1 hw h => Kk (n := P.p0x) Zo Zo) fun u0 => ?_
  refine ZC (fun w1 hw h => Kk (n := P.p0y) Zo Zo) fun u1 => ?_
  refine ZC (fun w1 hw h => Kk (n := P.p1x) Zo Zo) fun u2 => ?_
  refine ZD 16 (fun w1 hw h => Kk (n := P.p1y) Zo Zo) fun u3 => ?_
  refine K0.make (Ks (64) 5 #[(0, K3 Kx), (1, K3 (K6 P.p0x)), (2, K3 (K6 P.p0y)), (3, K3 (K6 P.p1x)), (4, K3 (K6 P.p1y))]) (Kb 5) (Kp 9 #[K3 Kx, K3 (K6 P.p0x), K3 (K6 P.p0y), K3 (K6 P.p1x), K3 (K6 P.p1y)]) Zk (fun w1 hw h => K8 Zk) (fun ga => ?_)
  refine ZR ?_
  refine ZD 4 (fun w1 hw h => by have t := Xu (w := w1) hs2.1 hs2.2; rw [← hx1] at t; exact t) fun u9 => ?_
  refine K0.make (Ks (64) 1 #[(0, K3 x1)]) (Kb 1) (Kp 9 #[K3 x1]) Zk (fun w1 hw h => K8 Zk) (fun gb => ?_)
  refine ZS 5 ?_
  refine K0.make (Lh 64 64 (Kb 5 ga) (Kb 1 gb)) (fun z : Option Addr × Nat => .slice z.1 (5 + 1) z.2) (fun z v => K7 v w.heap.size 9 1 z.1 (5 + 1) z.2 (sv L1)) Zk (fun w1 hw h => by have t := O4 (N := w.heap.size) (n := 5) (m := 1) (p := [Kx, K6 P.p0x, K6 P.p0y, K6 P.p1x, K6 P.p1y]) (l := [x1]) (cc := 1) h.1.1.2 rfl (L3 (L := [x1]) h.2 rfl) Zd Zd hw.size; rw [hL1]; exact t) (fun z => ?_)
  refine ZS 9 ?_
  refine ZD 9 (fun w1 hw h => O8 (N := w.heap.size) hw.size (hp.tr.below hw) hK) fun y => ?_
  refine K0.mutAny (L := bl z.1) (val := fun (z : Option Addr × Nat) => .slice z.1 (5 + 1 + 6) z.2) (Φ' := fun (z : Option Addr × Nat) v => K7 v w.heap.size 9 1 z.1 (5 + 1 + 6) z.2 (sv L2)) (G := fun (z : Option Addr × Nat) v => K7 v w.heap.size 9 1 z.1 (5 + 1 + 6) z.2 (sv L2)) (Lh 64 64 (.slice z.1 (5 + 1) z.2) (.slice y.1 6 y.2)) (fun w1 hw h => by have t := Me h.1.2 hw.size h.2.strs Zd (cc := y.2); rw [← hL2e] at t; exact t) (fun w1 h => fun b hb => ⟨(h.1.2.lt b hb).1, (h.1.2.blk b hb).2⟩) (fun z wa wb e1 e2 h hG => hG) Zk Zk (fun z2 => ?_)
  refine ZR ?_
  refine K0.loop (ι := {r : Nat × (Option Addr × Nat) // r.1 ≤ P.stops.length}) 91 (fun r => ⟨[(3, .v (.slice r.1.2.1 (5 + 1 + 6 + 2 * r.1.1) r.1.2.2)), (74, .v (.slice q.sA P.stops.length q.sc)), (75, .v (.int .i64 P.stops.length)), (76, .v (.int .i64 r.1.1))], []⟩) (fun r u => K7 u w.heap.size 9 1 r.1.2.1 (5 + 1 + 6 + 2 * r.1.1) r.1.2.2 (sv (L2 ++ Tn (P.stops.take r.1.1)))) (fun r => P.stops.length - r.1.1) (⟨(0, z2), Nat.zero_le _⟩) Zk (fun _ => by kernel_rfl) ⟨Zk, Zk, Zk⟩ (fun u h => by show K7 u w.heap.size 9 1 z2.1 (5 + 1 + 6) z2.2 (sv (L2 ++ [])); rw [List.append_nil]; exact h) ?_
  rintro ⟨⟨k, y0, yc⟩, hk0⟩ gg
  have hk0 : k ≤ P.stops.length := hk0
  by_cases hlt : k < P.stops.length
  case neg =>
   have hkn : P.stops.length = k := by omega
   refine ZR ?_
   refine ZJ (decide ((k : Int) < (P.stops.length : Int))) false Zp ?_
   refine K0.leave Zk ?_
   refine ZR ?_
   have hfull : P.stops.take k = P.stops := List.take_of_length_le Zo
   have hlen : (L2 ++ Tn P.stops).length = 5 + 1 + 6 + 2 * k := by rw [List.length_append, Vd, hL2n]; omega
   refine ZV (.slice y0 (5 + 1 + 6 + 2 * k) yc) (fun w1 hw h => ⟨(y0, yc), by rw [hlen], hw, fun w'' k1 k2 => by rw [hlen]; have t := (show K7 w'' w.heap.size 9 1 y0 (5 + 1 + 6 + 2 * k) yc (sv (L2 ++ Tn (P.stops.take k))) from h w'' k1 k2).strs; rw [hfull] at t; exact t⟩)
  obtain ⟨x, hx⟩ : ∃ x, P.stops[k]? = some x := ⟨_, List.getElem?_eq_getElem hlt⟩
  obtain ⟨ad, hA, hc⟩ := hp.st.2 k x hx
  have hxr := Xh (Int.le_refl 0) hst x (List.mem_of_getElem? hx)
  have hstep : L2 ++ Tn (P.stops.take (k + 1)) = (L2 ++ Tn (P.stops.take k)) ++ [K6 x.1, Na x.2] := by rw [stW_snoc hx]; simp
  obtain ⟨p, hp'⟩ : ∃ p, p = L2 ++ Tn (P.stops.take k) := ⟨_, rfl⟩
  refine ZR ?_
  refine ZJ (decide ((k : Int) < (P.stops.length : Int))) true Zp ?_
  refine ZA (Ke 54 (.slice q.sA P.stops.length q.sc) k) (.pointer (some (ad.add (k * 5)))) (fun w1 hw h => Vc hA hlt) ?_
  refine ZA (L7 133 (ad.add (k * 5))) (.agg (Zy x).toArray) (fun w1 hw h => st_ld fun j v hj => Ky hw (hc j v hj)) ?_
  refine ZC (fun w1 hw h => Kk (n := x.1) Zo Zo) fun v1 => ?_
  refine ZD 7 (fun w1 hw h => Y1 (k := x.2)) fun v2 => ?_
  refine K0.make (Ks (64) 2 #[(0, K3 (K6 x.1)), (1, K3 (Na x.2))]) (Kb 2) (Kp 9 #[K3 (K6 x.1), K3 (Na x.2)]) Zk (fun w1 hw h => K8 Zk) (fun gc => ?_)
  refine ZS 8 ?_
  refine K0.mutAny (L := bl y0) (val := fun (z : Option Addr × Nat) => .slice z.1 (5 + 1 + 6 + 2 * k + 2) z.2) (Φ' := fun (z : Option Addr × Nat) v => K7 v w.heap.size 9 1 z.1 (5 + 1 + 6 + 2 * k + 2) z.2 (sv (p ++ [K6 x.1, Na x.2]))) (G := fun (z : Option Addr × Nat) v => K7 v w.heap.size 9 1 z.1 (5 + 1 + 6 + 2 * k + 2) z.2 (sv (p ++ [K6 x.1, Na x.2]))) (Lh 64 64 (.slice y0 (5 + 1 + 6 + 2 * k) yc) (Kb 2 gc)) (fun w1 hw h => app_row2 (show K7 w1 w.heap.size 9 1 y0 (5 + 1 + 6 + 2 * k) yc (sv p) from (by rw [hp']; exact h.1.1.1)) hw.size h.2 (by have := hst16; omega)) (fun w1 h => fun b hb => ⟨((show K7 w1 w.heap.size 9 1 y0 (5 + 1 + 6 + 2 * k) yc (sv p) from (by rw [hp']; exact h.1.1.1)).lt b hb).1, ((show K7 w1 w.heap.size 9 1 y0 (5 + 1 + 6 + 2 * k) yc (sv p) from (by rw [hp']; exact h.1.1.1)).blk b hb).2⟩) (fun z wa wb e1 e2 h hG => hG) Zk Zk (fun z => ?_)
  refine ZR ?_
  refine K0.slot 76 (.int .i64 (IntKind.i64.wrap ((k : Int) + 1))) (.int .i64 ((k + 1 : Nat) : Int)) Zk (by rw [Kc hlt Zo]) ?_
  refine K0.next (⟨(k + 1, z.1, z.2), by show k + 1 ≤ P.stops.length; omega⟩) Zk (by show P.stops.length - (k + 1) < P.stops.length - k; omega) ⟨Zk, Zk, Zk⟩ (fun u h => (by show K7 u w.heap.size 9 1 z.1 (5 + 1 + 6 + 2 * (k + 1)) z.2 (sv (L2 ++ Tn (P.stops.take (k + 1)))); rw [hstep, ← hp', show 5 + 1 + 6 + 2 * (k + 1) = 5 + 1 + 6 + 2 * k + 2 by omega]; exact h))
 by_cases k3 : P.kind = 3
 case neg => rw [if_neg k1, if_neg k2, if_neg k3, if_neg k4] at hk; cases hk
 rw [if_neg k1, if_neg k2, if_pos k3, Bool.and_eq_true, Bool.and_eq_true, Bool.and_eq_true, decide_eq_true_iff] at hk
 obtain ⟨hp0, hrad, hst0, _⟩ := hk
 have hr0 := Ow hp0
 have hst2 := hst0
 rw [Bool.and_eq_true] at hst2
 have hs2 : 0 ≤ P.spread ∧ P.spread < 0 + 4 := by have := of_decide_eq_true (show decide (1 ≤ P.spread ∧ P.spread ≤ 3) = true from hst2.2); omega
 have hst1 := hst2.1
 unfold Mv at hst1
 rw [Bool.and_eq_true, decide_eq_true_iff] at hst1
 have hst := hst1.2
 have hst16 := hst1.1.2
 have e : O1 P = ([L9, K6 P.p0x, K6 P.p0y, K6 P.rad, x1] ++ Lp P.T) ++ Tn P.stops := by unfold O1; rw [if_neg k1, if_neg k4, if_neg k2, hx1]
 rw [e]
 obtain ⟨L1, hL1⟩ : ∃ L : WS, L = [L9, K6 P.p0x, K6 P.p0y, K6 P.rad, x1] := ⟨_, rfl⟩
 have hL1n : L1.length = 5 := by rw [hL1]; rfl
 obtain ⟨L2, hL2⟩ : ∃ L : WS, L = ([L9, K6 P.p0x, K6 P.p0y, K6 P.rad, x1] ++ Lp P.T) := ⟨_, rfl⟩
 have hL2e : L2 = L1 ++ Lp P.T := by rw [hL2, hL1]
 have hL2n : L2.length = 11 := by rw [hL2e, List.length_append, hL1n]; rfl
 rw [← hL2]
 refine K0.enter Tryz.func38 rfl ?_
 refine ZR ?_
 refine ZJ ((P.kind == 1)) false (beq_eq_false_iff_ne.2 k1) ?_
 refine ZJ ((P.kind == 4)) false (beq_eq_false_iff_ne.2 k4) ?_
 refine ZJ ((P.kind == 2)) false (beq_eq_false_iff_ne.2 k2) ?_
 refine ZC (fun w1 hw h => Kk (n := P.p0x) Zo Zo) fun u0 => ?_
 refine ZC (fun w1 hw h => Kk (n := P.p0y) Zo Zo) fun u1 => ?_
 refine ZD 11 (fun w1 hw h => Kk (n := P.rad) Zo Zo) fun u2 => ?_
 refine K0.make (Ks (64) 4 #[(0, K3 L9), (1, K3 (K6 P.p0x)), (2, K3 (K6 P.p0y)), (3, K3 (K6 P.rad))]) (Kb 4) (Kp 9 #[K3 L9, K3 (K6 P.p0x), K3 (K6 P.p0y), K3 (K6 P.rad)]) Zk (fun w1 hw h => K8 Zk) (fun ga => ?_)
 refine ZR ?_
 refine ZD 4 (fun w1 hw h => by have t := Xu (w := w1) hs2.1 hs2.2; rw [← hx1] at t; exact t) fun u9 => ?_
 refine K0.make (Ks (64) 1 #[(0, K3 x1)]) (Kb 1) (Kp 9 #[K3 x1]) Zk (fun w1 hw h => K8 Zk) (fun gb => ?_)
 refine ZS 5 ?_
 refine K0.make (Lh 64 64 (Kb 4 ga) (Kb 1 gb)) (fun z : Option Addr × Nat => .slice z.1 (4 + 1) z.2) (fun z v => K7 v w.heap.size 9 1 z.1 (4 + 1) z.2 (sv L1)) Zk (fun w1 hw h => by have t := O4 (N := w.heap.size) (n := 4) (m := 1) (p := [L9, K6 P.p0x, K6 P.p0y, K6 P.rad]) (l := [x1]) (cc := 1) h.1.1.2 rfl (L3 (L := [x1]) h.2 rfl) Zd Zd hw.size; rw [hL1]; exact t) (fun z => ?_)
 refine ZS 9 ?_
 refine ZD 9 (fun w1 hw h => O8 (N := w.heap.size) hw.size (hp.tr.below hw) hK) fun y => ?_
 refine K0.mutAny (L := bl z.1) (val := fun (z : Option Addr × Nat) => .slice z.1 (4 + 1 + 6) z.2) (Φ' := fun (z : Option Addr × Nat) v => K7 v w.heap.size 9 1 z.1 (4 + 1 + 6) z.2 (sv L2)) (G := fun (z : Option Addr × Nat) v => K7 v w.heap.size 9 1 z.1 (4 + 1 + 6) z.2 (sv L2)) (Lh 64 64 (.slice z.1 (4 + 1) z.2) (.slice y.1 6 y.2)) (fun w1 hw h => by have t := Me h.1.2 hw.size h.2.strs Zd (cc := y.2); rw [← hL2e] at t; exact t) (fun w1 h => fun b hb => ⟨(h.1.2.lt b hb).1, (h.1.2.blk b hb).2⟩) (fun z wa wb e1 e2 h hG => hG) Zk Zk (fun z2 => ?_)
 refine ZR ?_
 refine K0.loop (ι := {r : Nat × (Option Addr × Nat) // r.1 ≤ P.stops.length}) 91 (fun r => ⟨[(3, .v (.slice r.1.2.1 (4 + 1 + 6 + 2 * r.1.1) r.1.2.2)), (74, .v (.slice q.sA P.stops.length q.sc)), (75, .v (.int .i64 P.stops.length)), (76, .v (.int .i64 r.1.1))], []⟩) (fun r u => K7 u w.heap.size 9 1 r.1.2.1 (4 + 1 + 6 + 2 * r.1.1) r.1.2.2 (sv (L2 ++ Tn (P.stops.take r.1.1)))) (fun r => P.stops.length - r.1.1) (⟨(0, z2), Nat.zero_le _⟩) Zk (fun _ => by kernel_rfl) ⟨Zk, Zk, Zk⟩ (fun u h => by show K7 u w.heap.size 9 1 z2.1 (4 + 1 + 6) z2.2 (sv (L2 ++ [])); rw [List.append_nil]; exact h) ?_
 rintro ⟨⟨k, y0, yc⟩, hk0⟩ gg
 have hk0 : k ≤ P.stops.length := hk0
 by_cases hlt : k < P.stops.length
 case neg =>
  have hkn : P.stops.length = k := by omega
  refine ZR ?_
  refine ZJ (decide ((k : Int) < (P.stops.length : Int))) false Zp ?_
  refine K0.leave Zk ?_
  refine ZR ?_
  have hfull : P.stops.take k = P.stops := List.take_of_length_le Zo
  have hlen : (L2 ++ Tn P.stops).length = 4 + 1 + 6 + 2 * k := by rw [List.length_append, Vd, hL2n]; omega
  refine ZV (.slice y0 (4 + 1 + 6 + 2 * k) yc) (fun w1 hw h => ⟨(y0, yc), by rw [hlen], hw, fun w'' k1 k2 => by rw [hlen]; have t := (show K7 w'' w.heap.size 9 1 y0 (4 + 1 + 6 + 2 * k) yc (sv (L2 ++ Tn (P.stops.take k))) from h w'' k1 k2).strs; rw [hfull] at t; exact t⟩)
 obtain ⟨x, hx⟩ : ∃ x, P.stops[k]? = some x := ⟨_, List.getElem?_eq_getElem hlt⟩
 obtain ⟨ad, hA, hc⟩ := hp.st.2 k x hx
 have hxr := Xh (Int.le_refl 0) hst x (List.mem_of_getElem? hx)
 have hstep : L2 ++ Tn (P.stops.take (k + 1)) = (L2 ++ Tn (P.stops.take k)) ++ [K6 x.1, Na x.2] := by rw [stW_snoc hx]; simp
 obtain ⟨p, hp'⟩ : ∃ p, p = L2 ++ Tn (P.stops.take k) := ⟨_, rfl⟩
 refine ZR ?_
 refine ZJ (decide ((k : Int) < (P.stops.length : Int))) true Zp ?_
 refine ZA (Ke 54 (.slice q.sA P.stops.length q.sc) k) (.pointer (some (ad.add (k * 5)))) (fun w1 hw h => Vc hA hlt) ?_
 refine ZA (L7 133 (ad.add (k * 5))) (.agg (Zy x).toArray) (fun w1 hw h => st_ld fun j v hj => Ky hw (hc j v hj)) ?_
 refine ZC (fun w1 hw h => Kk (n := x.1) Zo Zo) fun v1 => ?_
 refine ZD 7 (fun w1 hw h => Y1 (k := x.2)) fun v2 => ?_
 refine K0.make (Ks (64) 2 #[(0, K3 (K6 x.1)), (1, K3 (Na x.2))]) (Kb 2) (Kp 9 #[K3 (K6 x.1), K3 (Na x.2)]) Zk (fun w1 hw h => K8 Zk) (fun gc => ?_)
 refine ZS 8 ?_
 refine K0.mutAny (L := bl y0) (val := fun (z : Option Addr × Nat) => .slice z.1 (4 + 1 + 6 + 2 * k + 2) z.2) (Φ' := fun (z : Option Addr × Nat) v => K7 v w.heap.size 9 1 z.1 (4 + 1 + 6 + 2 * k + 2) z.2 (sv (p ++ [K6 x.1, Na x.2]))) (G := fun (z : Option Addr × Nat) v => K7 v w.heap.size 9 1 z.1 (4 + 1 + 6 + 2 * k + 2) z.2 (sv (p ++ [K6 x.1, Na x.2]))) (Lh 64 64 (.slice y0 (4 + 1 + 6 + 2 * k) yc) (Kb 2 gc)) (fun w1 hw h => app_row2 (show K7 w1 w.heap.size 9 1 y0 (4 + 1 + 6 + 2 * k) yc (sv p) from (by rw [hp']; exact h.1.1.1)) hw.size h.2 (by have := hst16; omega)) (fun w1 h => fun b hb => ⟨((show K7 w1 w.heap.size 9 1 y0 (4 + 1 + 6 + 2 * k) yc (sv p) from (by rw [hp']; exact h.1.1.1)).lt b hb).1, ((show K7 w1 w.heap.size 9 1 y0 (4 + 1 + 6 + 2 * k) yc (sv p) from (by rw [hp']; exact h.1.1.1)).blk b hb).2⟩) (fun z wa wb e1 e2 h hG => hG) Zk Zk (fun z => ?_)
 refine ZR ?_
 refine K0.slot 76 (.int .i64 (IntKind.i64.wrap ((k : Int) + 1))) (.int .i64 ((k + 1 : Nat) : Int)) Zk (by rw [Kc hlt Zo]) ?_
 refine K0.next (⟨(k + 1, z.1, z.2), by show k + 1 ≤ P.stops.length; omega⟩) Zk (by show P.stops.length - (k + 1) < P.stops.length - k; omega) ⟨Zk, Zk, Zk⟩ (fun u h => (by show K7 u w.heap.size 9 1 z.1 (4 + 1 + 6 + 2 * (k + 1)) z.2 (sv (L2 ++ Tn (P.stops.take (k + 1)))); rw [hstep, ← hp', show 4 + 1 + 6 + 2 * (k + 1) = 4 + 1 + 6 + 2 * k + 2 by omega]; exact h))
end
end
section
open Go.RowKit
--ATNAMES
theorem P3 : ∀ (a b : WS), M2 (a ++ b) = M2 a + M2 b
 | [], b => by simp [M2]
 | x :: a, b => by
  have := P3 a b
  show x.length + M2 (a ++ b) = x.length + M2 a + M2 b
  omega
theorem colW_len (k : Co) : (Na k).length = 9 := by
 unfold Na
 rw [List.length_cons, R9]; rfl
theorem stW_sum : ∀ {l : List (Int × Co)} {a : Int}, 0 ≤ a → Zx a l = true → M2 (Tn l) ≤ 30 * l.length
 | [], a, _, _ => by simp [Tn, M2]
 | x :: l, a, ha, h => by
  have h : (decide (a ≤ x.1 ∧ x.1 ≤ 65536) && Zx x.1 l) = true := h
  rw [Bool.and_eq_true, decide_eq_true_iff] at h
  have ih := stW_sum (show 0 ≤ x.1 by omega) h.2
  have h1 := R8 (x := x.1) Zo
  have h2 := colW_len x.2
  show (K6 x.1).length + ((Na x.2).length + M2 (Tn l)) ≤ _
  rw [List.length_cons]; omega
theorem hexW_len (l : List Co) : (hexW l).length = 8 * l.length := by
 unfold hexW
 rw [R9, Yx]; omega
theorem name_len {l : WS} {frm k : Int} {m : Nat} (h : ∀ x ∈ l, x.length ≤ m) : (Kd l frm k).length ≤ m := by
 unfold Kd
 cases hk : l[(k - frm).toNat]? with
 | none => exact Nat.zero_le _
 | some x => exact h x (List.mem_of_getElem? hk)
theorem Vi {P : Pn} (hv : Kt P = true) : (O1 P).length ≤ 60 ∧ M2 (O1 P) ≤ 8 * P.im.px.length + 1600 := by
 unfold Kt at hv
 rw [Bool.and_eq_true, Bool.and_eq_true] at hv
 obtain ⟨hok, hz, hk⟩ := hv
 unfold kindOK at hk
 obtain ⟨ha, ha6⟩ := affW_len hok
 have hsp : (Kd Mp 0 P.spread).length ≤ 8 := name_len Zd
 have hlk : (Kd P5 1 P.samp).length ≤ 8 := name_len Zd
 unfold O1
 by_cases k1 : P.kind = 1
 ·rw [if_pos k1]
  have := colW_len P.co
  refine ⟨by simp, ?_⟩
  show 5 + ((Na P.co).length + 0) ≤ _
  omega
 by_cases k4 : P.kind = 4
 ·rw [if_neg k1, if_neg Zo, if_neg Zo, if_pos k4, Bool.and_eq_true] at hk
  rw [if_neg k1, if_pos k4]
  unfold Uy at hk
  rw [Bool.and_eq_true, Bool.and_eq_true] at hk
  have hsz := of_decide_eq_true hk.1.1.1
  have h1 := R8 (x := P.im.w) Zo
  have h2 := R8 (x := P.im.h) Zo
  have h3 := hexW_len P.im.px
  rw [P3, P3]
  refine ⟨by rw [List.length_append, List.length_append, ha6]; simp [Xy], ?_⟩
  show 7 + ((Kd Mp 0 P.spread).length + ((Kd P5 1 P.samp).length + 0)) + M2 (Lp P.T) + ((K6 P.im.w).length + ((K6 P.im.h).length + ((hexW P.im.px).length + 0))) ≤ _
  omega
 rw [if_neg k1, if_neg k4]
 by_cases k2 : P.kind = 2
 ·rw [if_neg k1, if_pos k2, Bool.and_eq_true, Bool.and_eq_true, Bool.and_eq_true, Bool.and_eq_true] at hk
  obtain ⟨hp0, hp1, ⟨hst, _⟩, _⟩ := hk
  have hr0 := Ow hp0
  have hr1 := Ow hp1
  unfold Mv at hst
  rw [Bool.and_eq_true, decide_eq_true_iff] at hst
  have h1 := stW_sum (Int.le_refl 0) hst.2
  have h2 := Vd P.stops
  have q1 := R8 (x := P.p0x) Zo; have q2 := R8 (x := P.p0y) Zo; have q3 := R8 (x := P.p1x) Zo; have q4 := R8 (x := P.p1y) Zo
  rw [if_pos k2, P3, P3]
  refine ⟨by rw [List.length_append, List.length_append, ha6, h2]; simp; omega, ?_⟩
  show 6 + ((K6 P.p0x).length + ((K6 P.p0y).length + ((K6 P.p1x).length + ((K6 P.p1y).length + ((Kd Mp 0 P.spread).length + 0))))) + M2 (Lp P.T) + M2 (Tn P.stops) ≤ _
  omega
 by_cases k3 : P.kind = 3
 ·rw [if_neg k1, if_neg k2, if_pos k3, Bool.and_eq_true, Bool.and_eq_true, Bool.and_eq_true, Bool.and_eq_true, decide_eq_true_iff] at hk
  obtain ⟨hp0, hrad, ⟨hst, _⟩, _⟩ := hk
  have hr0 := Ow hp0
  unfold Mv at hst
  rw [Bool.and_eq_true, decide_eq_true_iff] at hst
  have h1 := stW_sum (Int.le_refl 0) hst.2
  have h2 := Vd P.stops
  have q1 := R8 (x := P.p0x) Zo; have q2 := R8 (x := P.p0y) Zo; have q3 := R8 (x := P.rad) Zo
  rw [if_neg k2, P3, P3]
  refine ⟨by rw [List.length_append, List.length_append, ha6, h2]; simp; omega, ?_⟩
  show 6 + ((K6 P.p0x).length + ((K6 P.p0y).length + ((K6 P.rad).length + ((Kd Mp 0 P.spread).length + 0)))) + M2 (Lp P.T) + M2 (Tn P.stops) ≤ _
  omega
 rw [if_neg k1, if_neg k2, if_neg k3, if_neg k4] at hk; cases hk
section
variable {w : World} {P : Pn} {q : PM} {K : Nat} {l : List UInt8}
theorem formatPaint_n (hv : Kt P = false) (hp : PRd P q K w) (hK : 2 ≤ K ∧ K ≤ 1000) (hl : P.im.px.length ≤ 1000000000) : Calls Tryz.prog 27 #[pnV P q] w (K5 w (fun _ : Unit => .tuple #[K3 [], .int .i64 16]) fun _ _ => True) := by
 refine K0.enter Tryz.func27 rfl ?_
 refine ZR ?_
 refine ZC (fun w1 hw h => pvalid_v hv (hp.below hw) hl Zo) fun u => ?_
 refine ZI true ?_
 exact ZW (.tuple #[K3 [], .int .i64 16])
theorem formatPaint_s (hv : Kt P = true) (hp : PRd P q K w) (hK : 2 ≤ K ∧ K ≤ 1000) (hl : P.im.px.length ≤ 20000) : Calls Tryz.prog 27 #[pnV P q] w (K5 w (fun _ : Unit => .tuple #[K3 (Lc (O1 P)), .int .i64 0]) fun _ _ => True) := by
 have hs := Vi hv
 refine K0.enter Tryz.func27 rfl ?_
 refine ZR ?_
 refine ZC (fun w1 hw h => pvalid_v hv (hp.below hw) Zo Zo) fun u => ?_
 refine ZI false ?_
 refine ZC (fun w1 hw h => Su (hp.below hw) hv hK hl) fun y => ?_
 refine ZC (fun w1 hw h => Sv (c := y.2) h.2 Zo Zo) fun v => ?_
 exact ZW (.tuple #[K3 (Lc (O1 P)), .int .i64 0])
end
end
end Go.Proofs.YtdeepdckmhpldaaGreatDoor
