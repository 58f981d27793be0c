/-
 Paints as text: the reference's reader.
-/
import Derived.Test.YtncodmhgfkailaaGreatDoorYX
namespace Go.Proofs.YtncodmhgfkailaaGreatDoor
set_option maxRecDepth 100000
set_option maxHeartbeats 8000000
set_option linter.unusedVariables false
set_option linter.unusedSimpArgs false
open Go.RowKit
section
open Go.RowKit
--ATNAMES
@[reducible] def P5 (A : Option Addr) (n c : Nat) (x : Q7) : Value := .agg #[.slice A n c, .int .i64 x.i, .bool x.syn, .bool x.rng]
structure WsAt (w : World) (A : Option Addr) (n : Nat) (ws : WS) : Prop where
 at_ : L6 w A n ws
 len : n ≤ 100000
 wd : ∀ s ∈ ws, s.length ≤ 10000
theorem WsAt.below {w w1 : World} {A : Option Addr} {n : Nat} {ws : WS} (h : WsAt w A n ws) (hw : Below w.heap.size w w1) : WsAt w1 A n ws := ⟨h.at_.below hw, h.len, h.wd⟩
section
variable {w : World} {A A2 : Option Addr} {n c n2 c2 : Nat} {ws l : WS} {x y : Q7}
theorem WsAt.fld (h : WsAt w A n ws) : (Kv ws x).1.length ≤ 10000 := by
 unfold Kv
 split
 ·simp
 ·rename_i s hs; exact h.wd s (List.mem_of_getElem? hs)
theorem field_m (hs : WsAt w A n ws) : Calls Tryz.prog 148 #[P5 A n c x] w (K5 w (fun _ : Unit => .tuple #[K4 (Kv ws x).1, P5 A n c (Kv ws x).2]) fun _ _ => True) := by
 have hln := hs.at_.1
 have hn := hs.len
 refine K0.enter Tryz.func148 rfl ?_
 refine ZR ?_
 by_cases hlt : x.i < n
 case neg =>
  have e : Kv ws x = ([], ⟨x.i, true, x.rng⟩) := fld_none (List.getElem?_eq_none Zo)
  rw [e]
  refine ZJ (decide ((x.i : Int) ≥ (n : Int))) true Zp ?_
  exact ZW (.tuple #[K4 [], P5 A n c ⟨x.i, true, x.rng⟩])
 obtain ⟨s, hx⟩ : ∃ s, ws[x.i]? = some s := ⟨_, List.getElem?_eq_getElem Zo⟩
 obtain ⟨ad, hA, hc⟩ := hs.at_.2 x.i s hx
 rw [fld_some hx]
 refine K0.condr (decide ((x.i : Int) ≥ (n : Int))) false Zk Zp ?_
 refine ZS 3 ?_
 refine K0.slot 14 (.int .i64 (IntKind.i64.wrap ((x.i : Int) + 1))) (.int .i64 ((x.i + 1 : Nat) : Int)) Zk (by rw [IntWalk.i64_in _ Zo]; rfl) ?_
 refine ZS 5 ?_
 refine K0.slot 20 (.int .i64 (IntKind.i64.wrap (((x.i + 1 : Nat) : Int) - 1))) (.int .i64 (x.i : Int)) Zk (by rw [IntWalk.i64_in _ Zo]; congr 1; omega) ?_
 refine K0.askAt 5 (Kx 64 (.slice A n c) x.i) (.pointer (some (ad.add x.i))) Zk (fun w1 hw h => by rw [hA]; exact Kh (elem := 9) Zk Zk hlt) ?_
 refine ZS 6 ?_
 refine ZB 6 (Ln 9 (ad.add x.i)) (K4 s) (fun w1 hw h => K9 Zk (Mw hw hc)) ?_
 exact ZW (.tuple #[K4 s, P5 A n c ⟨x.i + 1, x.syn, x.rng⟩])
theorem number_m45 (hs : WsAt w A n ws) : Calls Tryz.prog 153 #[P5 A n c x] w (K5 w (fun _ : Unit => .tuple #[.int .i64 (Pf ws x).1, P5 A n c (Pf ws x).2]) fun _ _ => True) := by
 have hfl := hs.fld (x := x)
 obtain ⟨f, hf⟩ : ∃ f, f = Kv ws x := ⟨_, rfl⟩
 have e : Pf ws x = (piV f.1, ⟨f.2.i, f.2.syn || decide (piE f.1 ≠ 6 ∧ piE f.1 ≠ 0), f.2.rng || decide (piE f.1 = 6)⟩) := by rw [hf]; rfl
 rw [← hf] at hfl
 have hfm : ∀ w1 : World, WsAt w1 A n ws → Calls Tryz.prog 148 #[P5 A n c x] w1 (K5 w1 (fun _ : Unit => .tuple #[K4 f.1, P5 A n c f.2]) fun _ _ => True) := fun w1 h1 => by have t := field_m (c := c) (x := x) h1; rw [← hf] at t; exact t
 rw [e]
 refine K0.enter Tryz.func153 rfl ?_
 refine ZR ?_
 refine ZC (fun w1 hw h => hfm w1 (hs.below hw)) fun y => ?_
 refine ZC (fun w1 hw h => rparseInt_m (l := f.1) Zo) fun z => ?_
 by_cases h6 : piE f.1 = 6
 case pos =>
  refine ZJ ((piE f.1 == 6)) true (beq_iff_eq.2 h6) ?_
  exact ZX (.tuple #[.int .i64 (piV f.1), P5 A n c ⟨f.2.i, f.2.syn, true⟩]) (by simp [h6])
 refine ZJ ((piE f.1 == 6)) false (beq_eq_false_iff_ne.2 h6) ?_
 by_cases h0 : piE f.1 = 0
 case pos =>
  refine ZJ ((piE f.1 != 0)) false (bne_eq_false_iff_eq.2 h0) ?_
  exact ZX (.tuple #[.int .i64 (piV f.1), P5 A n c ⟨f.2.i, f.2.syn, f.2.rng⟩]) (by simp [h0])
 refine ZJ ((piE f.1 != 0)) true (bne_iff_ne.2 h0) ?_
 exact ZX (.tuple #[.int .i64 (piV f.1), P5 A n c ⟨f.2.i, true, f.2.rng⟩]) (by simp [h0, h6])
theorem idxW_none : ∀ {l : WS} {s : List UInt8}, s ∉ l → idxW s l = none
 | [], s, _ => rfl
 | y :: l, s, h => by
  rw [Nh, if_neg (fun e => h (by rw [e]; simp)), idxW_none (fun hc => h (by simp [hc]))]; rfl
theorem idxW_first : ∀ {l : WS} {s : List UInt8} {k : Nat}, l[k]? = some s → (∀ j, j < k → l[j]? ≠ some s) → idxW s l = some k
 | [], s, k, h, _ => by simp at h
 | y :: l, s, 0, h, _ => by
  simp at h; rw [Nh, if_pos h]
 | y :: l, s, k + 1, h, hn => by
  have h0 := hn 0 Zo
  rw [Nh, if_neg (fun e => h0 (by simp [e])), idxW_first (k := k) (by simpa using h) (fun j hj => by have := hn (j + 1) Zo; simpa using this)]; rfl
theorem choR_none {s : List UInt8} {y : Q7} (hf : Kv ws x = (s, y)) (h : choF l s = none) : Q5 ws l x = (0, ⟨y.i, true, y.rng⟩) := by unfold Q5; rw [hf]; simp only [h]
theorem choR_some {s : List UInt8} {y : Q7} {k : Nat} (hf : Kv ws x = (s, y)) (h : choF l s = some k) : Q5 ws l x = ((k : Int), y) := by unfold Q5; rw [hf]; simp only [h]
theorem choice_m (hs : WsAt w A n ws) (hl : L6 w A2 n2 l) (hn2 : n2 ≤ 100) : Calls Tryz.prog 74 #[P5 A n c x, .slice A2 n2 c2] w (K5 w (fun _ : Unit => .tuple #[.int .i64 (Q5 ws l x).1, P5 A n c (Q5 ws l x).2]) fun _ _ => True) := by
 have hll := hl.1
 obtain ⟨s, y, hf⟩ : ∃ s y, Kv ws x = (s, y) := ⟨_, _, rfl⟩
 have hfm : ∀ w1 : World, WsAt w1 A n ws → Calls Tryz.prog 148 #[P5 A n c x] w1 (K5 w1 (fun _ : Unit => .tuple #[K4 s, P5 A n c y]) fun _ _ => True) := fun w1 h1 => by have t := field_m (c := c) (x := x) h1; rw [hf] at t; exact t
 refine K0.enter Tryz.func74 rfl ?_
 refine ZR ?_
 refine ZC (fun w1 hw h => hfm w1 (hs.below hw)) fun z => ?_
 refine K0.loop (ι := {k : Nat // k ≤ n2 ∧ (s = [] ∨ ∀ j, j < k → l[j]? ≠ some s)}) 34 (fun q => ⟨[(1, .v (.slice A2 n2 c2)), (5, .p 5 0), (6, .v (K4 s)), (7, .p 7 0), (8, .v (.int .i64 q.1))], [(5, [.v (.slice none 0 0), .v (.int .i64 0), .v (.bool false), .v (.bool false)]), (7, [.v (.slice A n c), .v (.int .i64 y.i), .v (.bool y.syn), .v (.bool y.rng)])]⟩) (fun q u => True) (fun q => n2 - q.1) (⟨0, Nat.zero_le _, .inr fun j h => absurd h (Nat.not_lt_zero _)⟩) Zk (fun _ => by kernel_rfl) ⟨Zk, Zk, Zk⟩ (fun u h => trivial) ?_
 rintro ⟨k, hk, hno⟩ gg
 have hk : k ≤ n2 := hk
 by_cases hlt : k < n2
 case neg =>
  have hkn : n2 = k := by omega
  have hc : choF l s = none := by
   unfold choF
   by_cases h0 : s = []
   ·rw [if_pos h0]
   rw [if_neg h0]
   refine idxW_none fun hm => ?_
   obtain ⟨j, hj⟩ := List.mem_iff_getElem?.1 hm
   have := (List.getElem?_eq_some_iff.1 hj).1
   exact hno.resolve_left h0 j Zo hj
  rw [choR_none hf hc]
  refine ZR ?_
  refine ZJ (decide ((k : Int) < (n2 : Int))) false Zp ?_
  refine K0.leave Zk ?_
  refine ZR ?_
  exact ZW (.tuple #[.int .i64 0, P5 A n c ⟨y.i, true, y.rng⟩])
 obtain ⟨t, ht⟩ : ∃ t, l[k]? = some t := ⟨_, List.getElem?_eq_getElem Zo⟩
 obtain ⟨ad, hA, hc⟩ := hl.2 k t ht
 refine ZR ?_
 refine K0.condr (decide ((k : Int) < (n2 : Int))) true Zk Zp ?_
 refine ZS 1 ?_
 by_cases h0 : s = []
 case pos =>
  refine ZA (Ov .neq 9 (.tmp 20) (.const (.string ⟨#[]⟩)) (K4 s) (K4 [])) (.bool false) (fun w1 hw h => run_neS (by simpa using h0)) ?_
  refine ZI false ?_
  refine K0.slot 8 (.int .i64 (IntKind.i64.wrap ((k : Int) + 1))) (.int .i64 ((k + 1 : Nat) : Int)) Zk (by rw [Kf hlt Zo]) ?_
  refine K0.next (⟨k + 1, by show k + 1 ≤ n2; omega, .inl h0⟩) Zk (by show n2 - (k + 1) < n2 - k; omega) ⟨Zk, Zk, Zk⟩ (fun u h => trivial)
 refine K0.ask (Ov .neq 9 (.tmp 20) (.const (.string ⟨#[]⟩)) (K4 s) (K4 [])) (.bool true) Zk (fun w1 hw h => run_neS (by simpa using h0)) ?_
 refine ZS 6 ?_
 refine ZA (Kx 64 (.slice A2 n2 c2) k) (.pointer (some (ad.add k))) (fun w1 hw h => by rw [hA]; exact Kh (elem := 9) Zk Zk hlt) ?_
 refine K0.ask (Ln 9 (ad.add k)) (K4 t) Zk (fun w1 hw h => K9 Zk (Mw hw hc)) ?_
 refine ZS 8 ?_
 by_cases h1 : s = t
 case pos =>
  have hc : choF l s = some k := by
   unfold choF
   rw [if_neg h0]
   exact idxW_first (by rw [ht, h1]) (hno.resolve_left h0)
  rw [choR_some hf hc]
  refine ZA (Ov .eql 9 (.tmp 23) (.tmp 27) (K4 s) (K4 t)) (.bool true) (fun w1 hw h => L3 (by simpa using h1)) ?_
  refine ZI true ?_
  refine K0.leave Zk ?_
  refine ZR ?_
  exact ZW (.tuple #[.int .i64 (k : Int), P5 A n c y])
 refine ZA (Ov .eql 9 (.tmp 23) (.tmp 27) (K4 s) (K4 t)) (.bool false) (fun w1 hw h => L3 (by simpa using h1)) ?_
 refine ZI false ?_
 refine K0.slot 8 (.int .i64 (IntKind.i64.wrap ((k : Int) + 1))) (.int .i64 ((k + 1 : Nat) : Int)) Zk (by rw [Kf hlt Zo]) ?_
 refine K0.next (⟨k + 1, by show k + 1 ≤ n2; omega, .inr fun j hj => (Nat.lt_or_ge j k).elim (fun q => hno.resolve_left h0 j q) (fun q => by have e : j = k := Zo; subst e; rw [ht]; intro h2; exact h1 (by injection h2 with h2; exact h2.symm))⟩) Zk (by show n2 - (k + 1) < n2 - k; omega) ⟨Zk, Zk, Zk⟩ (fun u h => trivial)
end
section
variable {w : World} {l : List UInt8}
theorem rdecode_g {p : List UInt8} {K : Nat} (hd : decL l = some p) (hK : p.length = K) (h0 : 0 < K) (hL : l.length ≤ 20000) : Calls Tryz.prog 198 #[K4 l] w (K5 w (fun y : Nat × Nat => .tuple #[.slice (some ⟨y.1, 0, none⟩) K y.2, .int .i64 0]) fun y u => ∀ (k : Nat) (b : UInt8), p[k]? = some b → u.cell? ⟨y.1, k, none⟩ = some (.int .u8 (b.toNat : Int))) := by
 subst hK
 refine (rdecode_s hd Zo).mono fun e w' k => ?_
 obtain ⟨y, h1, h2, h3⟩ := k
 have hown : K6 w' 0 5 1 y.1 p.length y.2 (bv p) := h3 w' (Nat.le_refl _) fun _ _ _ => rfl
 obtain ⟨g, hg, _⟩ := hown.cells h0
 refine ⟨(g, y.2), by rw [h1]; show Ending.returned (.tuple #[.slice y.1 _ _, _]) = _; rw [hg], h2, fun w'' k1 k2 k b hk => ?_⟩
 have ho2 : K6 w'' 0 5 1 y.1 p.length y.2 (bv p) := h3 w'' k1 k2
 obtain ⟨g2, e2, hc⟩ := ho2.cells h0
 rw [hg] at e2
 cases e2
 exact hc k _ (by unfold bv; rw [List.getElem?_map, hk]; rfl)
theorem rcolor_n (h : Qf l = none) (hl : l.length ≤ 10000) : Calls Tryz.prog 149 #[K4 l] w (K5 w (fun _ : Unit => .tuple #[P8 Pp, .int .i64 3]) fun _ _ => True) := by
 by_cases h9 : l.length = 9
 case neg =>
  refine K0.enter Tryz.func149 rfl ?_
  refine ZS 3 ?_
  refine ZT 8 (.bool ((l.length : Int) != 9)) (.bool true) Zp ?_
  refine ZI true ?_
  exact ZW (.tuple #[P8 Pp, .int .i64 3])
 obtain ⟨b, l, rfl⟩ : ∃ b t, l = b :: t := by cases l with
  | nil => cases h9
  | cons b t => exact ⟨b, t, rfl⟩
 have h8 : l.length = 8 := by simpa using h9
 refine K0.enter Tryz.func149 rfl ?_
 refine ZS 3 ?_
 by_cases hb : b = 35
 case neg =>
  refine K0.slot 8 (.bool (((b :: l).length : Int) != 9)) (.bool false) Zk Zp ?_
  refine ZS 5 ?_
  refine K0.ask (ixS 9 (K4 (b :: l)) (0 : Nat)) (.int .u8 (b.toNat : Int)) Zk (fun w1 hw h => Lg Zk rfl) ?_
  refine ZS 7 ?_
  refine ZT 12 (.bool ((b.toNat : Int) != 35)) (.bool true) (by simp; intro e; exact hb (UInt8.toNat_inj.1 (by show b.toNat = 35; omega))) ?_
  refine ZI true ?_
  exact ZW (.tuple #[P8 Pp, .int .i64 3])
 subst hb
 have hdn : decL l = none := by
  rw [colP_dec h8] at h
  cases hd : decL l with
  | none => rfl
  | some p =>
   have hp : p.length = 4 := by have := Qw hd; have h2 := Na p; rw [this, h8] at h2; omega
   match p, hp with
   | [x, y, z, u], _ => rw [hd] at h; cases h
 refine K0.slot 8 (.bool (((35 :: l).length : Int) != 9)) (.bool false) Zk Zp ?_
 refine ZS 5 ?_
 refine ZA (ixS 9 (K4 (35 :: l)) (0 : Nat)) (.int .u8 35) (fun w1 hw h => Lg (b := 35) Zk rfl) ?_
 refine K0.cond false Zk ?_
 refine ZS 1 ?_
 refine ZA (fromA 9 (K4 (35 :: l)) ((1 : Nat) : Int)) (K4 l) (fun w1 hw h => run_fromA Zk Zs) ?_
 refine ZC (fun w1 hw h => rdecode_n hdn Zo) fun y => ?_
 refine ZI true ?_
 exact ZW (.tuple #[P8 Pp, .int .i64 3])
theorem rcolor_s {k : Co} (h : Qf l = some k) : Calls Tryz.prog 149 #[K4 l] w (K5 w (fun _ : Unit => .tuple #[P8 k, .int .i64 0]) fun _ _ => True) := by
 have hcw := colW_P h
 obtain ⟨l', rfl⟩ : ∃ t, l = 35 :: t := ⟨_, hcw.symm⟩
 have h9 : l'.length = 8 := by
  have := congrArg List.length hcw
  unfold Mp at this
  rw [List.length_cons, List.length_cons, Na] at this
  have h2 : (coB k).length = 4 := rfl
  omega
 have hd : decL l' = some (coB k) := by
  have h1 : Nz (coB k) = l' := by unfold Mp at hcw; exact List.tail_eq_of_cons_eq hcw
  rw [← h1]; exact decL_enc _
 refine K0.enter Tryz.func149 rfl ?_
 refine ZS 3 ?_
 refine K0.slot 8 (.bool (((35 :: l').length : Int) != 9)) (.bool false) Zk Zp ?_
 refine ZS 5 ?_
 refine ZA (ixS 9 (K4 (35 :: l')) (0 : Nat)) (.int .u8 35) (fun w1 hw h => Lg (b := 35) Zk rfl) ?_
 refine K0.cond false Zk ?_
 refine ZS 1 ?_
 refine ZA (fromA 9 (K4 (35 :: l')) ((1 : Nat) : Int)) (K4 l') (fun w1 hw h => run_fromA Zk Zs) ?_
 refine ZC (fun w1 hw h => rdecode_g (K := 4) hd rfl Zd Zo) fun y => ?_
 refine ZI false ?_
 refine ZB 1 (Kx 137 (.slice (some ⟨y.1, 0, none⟩) 4 y.2) (0 : Nat)) (.pointer (some ((⟨y.1, 0, none⟩ : Addr).add 0))) (fun w1 hw h => Kh (elem := 5) Zk Zk Zd) ?_
 refine ZB 2 (Ln 5 ((⟨y.1, 0, none⟩ : Addr).add 0)) (.int .u8 (k.1.toNat : Int)) (fun w1 hw h => K9 Zk (by rw [Addr.add_mid, Nat.zero_add]; exact h.2 0 _ rfl)) ?_
 refine ZB 4 (Kx 137 (.slice (some ⟨y.1, 0, none⟩) 4 y.2) (1 : Nat)) (.pointer (some ((⟨y.1, 0, none⟩ : Addr).add 1))) (fun w1 hw h => Kh (elem := 5) Zk Zk Zd) ?_
 refine ZB 5 (Ln 5 ((⟨y.1, 0, none⟩ : Addr).add 1)) (.int .u8 (k.2.1.toNat : Int)) (fun w1 hw h => K9 Zk (by rw [Addr.add_mid, Nat.zero_add]; exact h.2 1 _ rfl)) ?_
 refine ZB 7 (Kx 137 (.slice (some ⟨y.1, 0, none⟩) 4 y.2) (2 : Nat)) (.pointer (some ((⟨y.1, 0, none⟩ : Addr).add 2))) (fun w1 hw h => Kh (elem := 5) Zk Zk Zd) ?_
 refine ZB 8 (Ln 5 ((⟨y.1, 0, none⟩ : Addr).add 2)) (.int .u8 (k.2.2.1.toNat : Int)) (fun w1 hw h => K9 Zk (by rw [Addr.add_mid, Nat.zero_add]; exact h.2 2 _ rfl)) ?_
 refine ZB 10 (Kx 137 (.slice (some ⟨y.1, 0, none⟩) 4 y.2) (3 : Nat)) (.pointer (some ((⟨y.1, 0, none⟩ : Addr).add 3))) (fun w1 hw h => Kh (elem := 5) Zk Zk Zd) ?_
 refine ZB 11 (Ln 5 ((⟨y.1, 0, none⟩ : Addr).add 3)) (.int .u8 (k.2.2.2.toNat : Int)) (fun w1 hw h => K9 Zk (by rw [Addr.add_mid, Nat.zero_add]; exact h.2 3 _ rfl)) ?_
 exact ZW (.tuple #[P8 k, .int .i64 0])
end
section
variable {w : World} {A A2 : Option Addr} {n c n2 c2 : Nat} {ws l : WS} {x y : Q7}
theorem colorField_m (hs : WsAt w A n ws) : Calls Tryz.prog 75 #[P5 A n c x] w (K5 w (fun _ : Unit => .tuple #[P8 (colR ws x).1, P5 A n c (colR ws x).2]) fun _ _ => True) := by
 have hfl := hs.fld (x := x)
 obtain ⟨s, y, hf⟩ : ∃ s y, Kv ws x = (s, y) := ⟨_, _, rfl⟩
 rw [hf] at hfl
 have hfm : ∀ w1 : World, WsAt w1 A n ws → Calls Tryz.prog 148 #[P5 A n c x] w1 (K5 w1 (fun _ : Unit => .tuple #[K4 s, P5 A n c y]) fun _ _ => True) := fun w1 h1 => by have t := field_m (c := c) (x := x) h1; rw [hf] at t; exact t
 refine K0.enter Tryz.func75 rfl ?_
 refine ZR ?_
 refine ZC (fun w1 hw h => hfm w1 (hs.below hw)) fun z => ?_
 cases hk : Qf s with
 | none =>
  have e : colR ws x = (Pp, ⟨y.i, true, y.rng⟩) := by unfold colR; rw [hf]; simp only [hk]
  rw [e]
  refine ZC (fun w1 hw h => rcolor_n hk (Nat.le_trans hfl Zd)) fun z2 => ?_
  refine ZI true ?_
  exact ZW (.tuple #[P8 Pp, P5 A n c ⟨y.i, true, y.rng⟩])
 | some k =>
  have e : colR ws x = (k, y) := by unfold colR; rw [hf]; simp only [hk]
  rw [e]
  refine ZC (fun w1 hw h => rcolor_s hk) fun z2 => ?_
  refine ZI false ?_
  exact ZW (.tuple #[P8 k, P5 A n c y])
def QO (b : Bool) (r : RV) (q : Rat) (u : World) : Prop := Mh r q 125 u ∨ (r = RV0 ∧ b = true ∧ q = 0)
theorem QO.q {b : Bool} {r : RV} {q : Rat} {u : World} (h : QO b r q u) : IsQ r q 125 u := by
 rcases h with h | ⟨rfl, _, rfl⟩
 ·exact h.q
 ·exact isq0
theorem QO.nn {r : RV} {q : Rat} {u : World} (h : QO false r q u) : Mh r q 125 u := by
 rcases h with h | ⟨_, h, _⟩
 ·exact h
 ·cases h
theorem QO.flag {b b' : Bool} {r : RV} {q : Rat} {u : World} (h : QO b r q u) (hb : b = true → b' = true) : QO b' r q u := h.imp id fun k => ⟨k.1, hb k.2.1, k.2.2⟩
theorem QO.blk {b : Bool} {r : RV} {q : Rat} {u : World} (h : QO b r q u) : ∀ x ∈ qblk r, ∃ cs ty own, u.heap[x]? = some (.cells cs ty own) := fun x hx => by
 rcases h with h | ⟨rfl, _, _⟩
 ·unfold qblk at hx
  rcases List.mem_append.1 hx with hx | hx
  ·obtain ⟨_, cs, ty, own, h2⟩ := h.1.2.2.2.dblk x hx; exact ⟨cs, ty, own, h2⟩
  ·obtain ⟨_, cs, ty, own, h2⟩ := h.2.2.2.2.dblk x hx; exact ⟨cs, ty, own, h2⟩
 ·cases hx
theorem QO.same {b : Bool} {r : RV} {q : Rat} {w w' : World} (h : QO b r q w) (e1 : w.heap.size ≤ w'.heap.size) (e2 : ∀ x ∈ qblk r, w'.heap[x]? = w.heap[x]?) : QO b r q w' := h.imp (fun k => k.dsame e1 e2) id
theorem ratR_syn (h : (Q2 ws x).2.syn = false) : x.syn = false := by
 unfold Q2 at h
 split at h
 ·unfold Kv at h
  split at h
  ·cases h
  ·exact h
 ·cases h
theorem ratField_m (hs : WsAt w A n ws) : Calls Tryz.prog 199 #[P5 A n c x] w (K5 w (fun r : RV => .tuple #[r.val, P5 A n c (Q2 ws x).2]) fun r u => QO (Q2 ws x).2.syn r (Q2 ws x).1 u) := by
 have hfl := hs.fld (x := x)
 obtain ⟨s, y, hf⟩ : ∃ s y, Kv ws x = (s, y) := ⟨_, _, rfl⟩
 rw [hf] at hfl
 have hfm : ∀ w1 : World, WsAt w1 A n ws → Calls Tryz.prog 148 #[P5 A n c x] w1 (K5 w1 (fun _ : Unit => .tuple #[K4 s, P5 A n c y]) fun _ _ => True) := fun w1 h1 => by have t := field_m (c := c) (x := x) h1; rw [hf] at t; exact t
 refine K0.enter Tryz.func199 rfl ?_
 refine ZR ?_
 refine ZC (fun w1 hw h => hfm w1 (hs.below hw)) fun z => ?_
 by_cases h0 : pqE s = 0
 case pos =>
  have e : Q2 ws x = (pqV s, y) := by unfold Q2; rw [hf]; simp only [h0, if_true]
  rw [e]
  refine ZC (fun w1 hw h => by have t := rparseQ_m (w := w1) (l := s) (Nat.lt_of_le_of_lt hfl Zd); rw [h0] at t; exact t) fun r => ?_
  refine ZI false ?_
  refine ZV (.tuple #[r.val, P5 A n c y]) (fun w1 hw h => ⟨r, rfl, hw, fun w'' k1 k2 => .inl ((h w'' k1 k2).2.n rfl)⟩)
 have e : Q2 ws x = (0, ⟨y.i, true, y.rng⟩) := by unfold Q2; rw [hf]; simp only [h0, if_false]
 rw [e]
 refine ZC (fun w1 hw h => rparseQ_m (w := w1) (l := s) (Nat.lt_of_le_of_lt hfl Zd)) fun r => ?_
 refine ZJ ((pqE s != 0)) true (bne_iff_ne.2 h0) ?_
 refine ZV (.tuple #[r.val, P5 A n c ⟨y.i, true, y.rng⟩]) (fun w1 hw h => ⟨r, rfl, hw, fun w'' k1 k2 => .inr ⟨(h w'' k1 k2).2.z h0, rfl, rfl⟩⟩)
theorem parsePoint_m (hs : WsAt w A n ws) : Calls Tryz.prog 150 #[P5 A n c x] w (K5 w (fun _ : Unit => .tuple #[pt (ptR ws x).1.1 (ptR ws x).1.2, P5 A n c (ptR ws x).2]) fun _ _ => True) := by
 obtain ⟨a, ha⟩ : ∃ a, a = Pf ws x := ⟨_, rfl⟩
 obtain ⟨b, hb⟩ : ∃ b, b = Pf ws a.2 := ⟨_, rfl⟩
 have e : ptR ws x = ((a.1, b.1), b.2) := by rw [hb, ha]; rfl
 rw [e]
 refine K0.enter Tryz.func150 rfl ?_
 refine ZR ?_
 refine ZC (fun w1 hw h => by have t := number_m45 (c := c) (x := x) (hs.below hw); rw [← ha] at t; exact t) fun z => ?_
 refine ZC (fun w1 hw h => by have t := number_m45 (c := c) (x := a.2) (hs.below hw); rw [← hb] at t; exact t) fun z2 => ?_
 exact ZW (.tuple #[pt a.1 b.1, P5 A n c b.2])
end
end
section
open Go.RowKit
--ATNAMES
def ratsR (ws : WS) : Nat → Q7 → List Rat × Q7
 | 0, x => ([], x)
 | n + 1, x => ((ratsR ws n x).1 ++ [(Q2 ws (ratsR ws n x).2).1], (Q2 ws (ratsR ws n x).2).2)
theorem afR_rats {ws : WS} {x y : Q7} {a b c d e f : Rat} (h : ratsR ws 6 x = ([a, b, c, d, e, f], y)) : afR ws x = (⟨a, b, c, d, e, f⟩, y) := by
 have h2 : ratsR ws 6 x = ([(afR ws x).1.a, (afR ws x).1.b, (afR ws x).1.c, (afR ws x).1.d, (afR ws x).1.e, (afR ws x).1.f], (afR ws x).2) := rfl
 rw [h] at h2
 simp only [Prod.mk.injEq, List.cons.injEq, and_true] at h2
 obtain ⟨⟨h1, h3, h4, h5, h6, h7⟩, h8⟩ := h2
 rw [h1, h3, h4, h5, h6, h7, h8]
structure AO (s : Bool) (t : TV) (T : Aff) (u : World) : Prop where
 a : QO s t.a T.a u
 b : QO s t.b T.b u
 c : QO s t.c T.c u
 d : QO s t.d T.d u
 e : QO s t.e T.e u
 f : QO s t.f T.f u
def rcl (r : RV × Rat) : List Value := r.1.cl
structure RowQ (s : Bool) (B : Nat) (y : Option Addr × Nat) (rs : List (RV × Rat)) (u : World) : Prop where
 own : K6 u B 34 4 y.1 rs.length y.2 (rs.flatMap rcl)
 num : ∀ r ∈ rs, QO s r.1 r.2 u
 apart : ∀ r ∈ rs, ∀ b ∈ bl y.1, b ∉ qblk r.1
section
variable {w : World} {A A2 : Option Addr} {n c n2 c2 : Nat} {ws l : WS} {x : Q7}
theorem K6.z {u : World} {B s : Nat} {e : TypeId} {A : Option Addr} (h : K6 u B e 1 A 0 0 []) : K6 u B e s A 0 0 [] := by
 refine ⟨by simp, ?_⟩
 rcases h.2 with h1 | ⟨g, cap, cur, h1, hB, hh, h2, h3, h4, h5⟩
 ·exact .inl h1
 ·have hc : cap = 0 := by injection h1 with _ _ h1; omega
  subst hc
  exact .inr ⟨g, 0, cur, h1, hB, hh, h2, h3, by simpa using h4, by simp⟩
theorem make_nilS {s N : Nat} {t e : TypeId} (h : M6 Tryz.prog w (Ki 0) (fun g u => K6 u N e 1 (some ⟨g, 0, none⟩) 0 0 []) (Li t 0 #[])) : M6 Tryz.prog w (Ki 0) (fun g u => K6 u N e s (some ⟨g, 0, none⟩) 0 0 []) (Li t 0 #[]) := by
 obtain ⟨x, w', h1, h2, h3⟩ := h
 exact ⟨x, w', h1, h2, fun w'' k1 k2 => (h3 w'' k1 k2).z⟩
theorem rowq_app {u : World} {s s' : Bool} {B gb : Nat} {y : Option Addr × Nat} {rs : List (RV × Rat)} {r : RV} {q : Rat} (h : RowQ s B y rs u) (hB : B ≤ u.heap.size) (hr : QO s' r q u) (hra : ∀ b ∈ bl y.1, b ∉ qblk r) (hg : L8 34 r.cl.toArray gb u) (hn : rs.length ≤ 100) :
 Q8 Tryz.prog u (bl y.1) (fun z : Option Addr × Nat => .slice z.1 (rs.length + 1) z.2) (fun z v => K6 v B 34 4 z.1 (rs.length + 1) z.2 ((rs ++ [(r, q)]).flatMap rcl) ∧ ∀ r' ∈ rs ++ [(r, q)], ∀ b ∈ bl z.1, b ∉ qblk r'.1) (M2 80 80 (.slice y.1 rs.length y.2) (Ki 1 gb)) := by
 have ha := Ms (P := Tryz.prog) (s := 4) (z := .agg RV0.cl.toArray) (bytes := 64) (m := 1) (cc := 1) (t := 80) (elem := 34) Zk Zk rfl Zd h.own hB (M5 (n := 1) hg rfl) (by intro v hv; simp [RV.cl] at hv; rcases hv with rfl | rfl | rfl | rfl <;> rfl) Zo Zd
 have e : (rs ++ [(r, q)]).flatMap rcl = rs.flatMap rcl ++ r.cl.toArray.toList := by simp [rcl]
 obtain ⟨z, w', h1, h2, h3⟩ := ha
 refine ⟨z, w', h1, h2, fun w'' k1 k2 => ?_⟩
 have hz := h3 w'' k1 k2
 rw [e]
 refine ⟨hz, fun r' hr' b hb hb2 => ?_⟩
 have hq : ∃ s2, QO s2 r'.1 r'.2 u ∧ ∀ b ∈ bl y.1, b ∉ qblk r'.1 := by
  rcases List.mem_append.1 hr' with h4 | h4
  ·exact ⟨s, h.num r' h4, h.apart r' h4⟩
  ·obtain rfl : r' = (r, q) := by simpa using h4
   exact ⟨s', hr, hra⟩
 obtain ⟨s2, hq, hap⟩ := hq
 obtain ⟨_, _, _, hblk⟩ := hq.blk b hb2
 have hlt := (Array.getElem?_eq_some_iff.1 hblk).1
 have hne : b ∉ bl y.1 := fun hc => hap b hc hb2
 have hz0 := h3 w' (Nat.le_refl _) fun _ _ => rfl
 have hlt' : b < w'.heap.size := (hz0.lt b hb).2
 have hz2 := h3 { w' with heap := w'.heap.setIfInBounds b (.pending #[] 0) } Zs fun k hk => by
  rw [Array.getElem?_setIfInBounds_ne]
  intro hc
  subst hc
  rcases hk with hk | hk
  ·exact hne hk
  ·omega
 obtain ⟨_, cs, ty, own, h5⟩ := hz2.blk b hb
 rw [Array.getElem?_setIfInBounds_self_of_lt hlt'] at h5; cases h5
theorem RowQ.left {u wa : World} {s s' : Bool} {B : Nat} {y z : Option Addr × Nat} {rs : List (RV × Rat)} {r : RV} {q : Rat} (h : RowQ s B y rs wa) (hr : QO s' r q wa) (hra : ∀ b ∈ bl y.1, b ∉ qblk r) (hs : s = true → s' = true)
 (e1 : wa.heap.size = u.heap.size) (e2 : ∀ b, b ∉ bl y.1 → wa.heap[b]? = u.heap[b]?) (hG : K6 u B 34 4 z.1 (rs.length + 1) z.2 ((rs ++ [(r, q)]).flatMap rcl) ∧ ∀ r' ∈ rs ++ [(r, q)], ∀ b ∈ bl z.1, b ∉ qblk r'.1) : RowQ s' B z (rs ++ [(r, q)]) u := by
 refine ⟨by rw [List.length_append]; exact hG.1, fun r' hr' => ?_, hG.2⟩
 rcases List.mem_append.1 hr' with h4 | h4
 ·exact ((h.num r' h4).flag hs).same Zo fun b hb => (e2 b fun hc => h.apart r' h4 b hc hb).symm
 ·obtain rfl : r' = (r, q) := by simpa using h4
  exact hr.same Zo fun b hb => (e2 b fun hc => hra b hc hb).symm
theorem ratField_n {y : Option Addr × Nat} {B k : Nat} {xs : List Value} (hs : WsAt w A n ws) (hy : K6 w B 34 4 y.1 k y.2 xs) : Calls Tryz.prog 199 #[P5 A n c x] w (K5 w (fun r : RV => .tuple #[r.val, P5 A n c (Q2 ws x).2]) fun r u => QO (Q2 ws x).2.syn r (Q2 ws x).1 u ∧ ∀ b ∈ bl y.1, b ∉ qblk r) := by
 refine (ratField_m hs).mono fun e w' h => ?_
 obtain ⟨q, h1, h2, h3⟩ := h.fresh (fun r => qblk r) (fun r u k => k.blk)
 exact ⟨q.1, h1, h2, fun w'' k1 k2 => ⟨(h3 w'' k1 k2).1, fun b hb hb2 => by have := ((h3 w'' k1 k2).2.1 b hb2).1; have := (hy.lt b hb).2; omega⟩⟩
theorem six_rats {α : Type} {l : List α} (h : l.length = 6) : ∃ a b c d e f, l = [a, b, c, d, e, f] := by
 match l, h with
 | [a, b, c, d, e, f], _ => exact ⟨a, b, c, d, e, f, rfl⟩
theorem rcl_len (r : RV × Rat) : (rcl r).length = 4 := rfl
theorem ratR_mono (hx : x.syn = true) : (Q2 ws x).2.syn = true := by
 cases h9 : (Q2 ws x).2.syn with
 | false => rw [ratR_syn h9] at hx; exact hx
 | true => rfl
theorem parseTransform_m (hs : WsAt w A n ws) : Calls Tryz.prog 151 #[P5 A n c x] w (K5 w (fun t : TV => .tuple #[t.val, P5 A n c (afR ws x).2]) fun t u => AO (afR ws x).2.syn t (afR ws x).1 u) := by
 refine K0.enter Tryz.func151 rfl ?_
 refine ZR ?_
 refine K0.make (Li 80 0 #[]) (Ki 0) (fun g u => K6 u w.heap.size 34 4 (some ⟨g, 0, none⟩) 0 0 []) Zk (fun w1 hw h => make_nilS (make_nil Zk hw.size)) (fun y0 => ?_)
 refine ZR ?_
 refine K0.loop (ι := {q : List (RV × Rat) × Q7 × (Option Addr × Nat) // q.1.length ≤ 6 ∧ ratsR ws q.1.length x = (q.1.map (·.2), q.2.1)}) 43 (fun q => ⟨[(1, .p 1 0), (2, .p 2 0), (3, .p 3 0), (4, .v (.slice q.1.2.2.1 q.1.1.length q.1.2.2.2)), (5, .v (.int .i64 q.1.1.length))], [(1, [.v (.slice A n c), .v (.int .i64 (q.1.2.1).i), .v (.bool (q.1.2.1).syn), .v (.bool (q.1.2.1).rng)]), (2, tv0.cl.map .v), (3, [.v (.slice none 0 0), .v (.int .i64 0), .v (.bool false), .v (.bool false)])]⟩) (fun q u => RowQ q.1.2.1.syn w.heap.size q.1.2.2 q.1.1 u) (fun q => 6 - q.1.1.length) (⟨([], x, (some ⟨y0, 0, none⟩, 0)), Nat.zero_le _, rfl⟩) Zk (fun _ => by kernel_rfl) ⟨Zk, Zk, Zk⟩ (fun u h => ⟨h.2, (fun r hr => by cases hr), (fun r hr => by cases hr)⟩) ?_
 rintro ⟨⟨rs, x1, y⟩, hk, hrs⟩ gg
 have hk : rs.length ≤ 6 := hk
 have hrs : ratsR ws rs.length x = (rs.map (·.2), x1) := hrs
 by_cases hlt : rs.length < 6
 case neg =>
  have h6 : rs.length = 6 := by omega
  obtain ⟨r0, r1, r2, r3, r4, r5, rfl⟩ := six_rats h6
  have e := afR_rats (x := x) hrs
  rw [e]
  refine K0.pure_ (p := ∃ g, y.1 = some ⟨g, 0, none⟩) (fun w1 hw h => by obtain ⟨g, hg, _⟩ := (show RowQ x1.syn w.heap.size y [r0, r1, r2, r3, r4, r5] w1 from h).own.cells (Nat.succ_pos _); exact ⟨g, hg⟩) Zk (fun hz => ?_)
  obtain ⟨g, hg⟩ := hz
  obtain ⟨yA, yc⟩ := y
  have hg : yA = some ⟨g, 0, none⟩ := hg
  subst hg
  have hrd : ∀ w1 : World, RowQ x1.syn w.heap.size (some ⟨g, 0, none⟩, yc) [r0, r1, r2, r3, r4, r5] w1 → ∀ (k : Nat) (r : RV × Rat), [r0, r1, r2, r3, r4, r5][k]? = some r → ∀ (j : Nat) (v : Value), r.1.cl[j]? = some v → w1.cell? (((⟨g, 0, none⟩ : Addr).add (k * 4)).add j) = some v := fun w1 h k r hk j v hj => by
   obtain ⟨ad, h1, h2⟩ := (h.own.rowA rcl_len rfl).2 k r hk
   cases h1
   exact h2 j v hj
  refine ZR ?_
  refine ZI false ?_
  refine K0.leave Zk ?_
  refine ZR ?_
  refine ZB 1 (Kx 80 (.slice (some ⟨g, 0, none⟩) 6 yc) (0 : Nat)) (.pointer (some ((⟨g, 0, none⟩ : Addr).add (0 * 4)))) (fun w1 hw h => Pt (elem := 34) Zk Zk Zd) ?_
  refine ZB 2 (Ln 34 ((⟨g, 0, none⟩ : Addr).add (0 * 4))) (r0.1.val) (fun w1 hw h => run_ldA Zk Zk (hrd _ h 0 r0 rfl)) ?_
  refine ZB 4 (Kx 80 (.slice (some ⟨g, 0, none⟩) 6 yc) (1 : Nat)) (.pointer (some ((⟨g, 0, none⟩ : Addr).add (1 * 4)))) (fun w1 hw h => Pt (elem := 34) Zk Zk Zd) ?_
  refine ZB 5 (Ln 34 ((⟨g, 0, none⟩ : Addr).add (1 * 4))) (r1.1.val) (fun w1 hw h => run_ldA Zk Zk (hrd _ h 1 r1 rfl)) ?_
  refine ZB 7 (Kx 80 (.slice (some ⟨g, 0, none⟩) 6 yc) (2 : Nat)) (.pointer (some ((⟨g, 0, none⟩ : Addr).add (2 * 4)))) (fun w1 hw h => Pt (elem := 34) Zk Zk Zd) ?_
  refine ZB 8 (Ln 34 ((⟨g, 0, none⟩ : Addr).add (2 * 4))) (r2.1.val) (fun w1 hw h => run_ldA Zk Zk (hrd _ h 2 r2 rfl)) ?_
  refine ZB 10 (Kx 80 (.slice (some ⟨g, 0, none⟩) 6 yc) (3 : Nat)) (.pointer (some ((⟨g, 0, none⟩ : Addr).add (3 * 4)))) (fun w1 hw h => Pt (elem := 34) Zk Zk Zd) ?_
  refine ZB 11 (Ln 34 ((⟨g, 0, none⟩ : Addr).add (3 * 4))) (r3.1.val) (fun w1 hw h => run_ldA Zk Zk (hrd _ h 3 r3 rfl)) ?_
  refine ZB 13 (Kx 80 (.slice (some ⟨g, 0, none⟩) 6 yc) (4 : Nat)) (.pointer (some ((⟨g, 0, none⟩ : Addr).add (4 * 4)))) (fun w1 hw h => Pt (elem := 34) Zk Zk Zd) ?_
  refine ZB 14 (Ln 34 ((⟨g, 0, none⟩ : Addr).add (4 * 4))) (r4.1.val) (fun w1 hw h => run_ldA Zk Zk (hrd _ h 4 r4 rfl)) ?_
  refine ZB 16 (Kx 80 (.slice (some ⟨g, 0, none⟩) 6 yc) (5 : Nat)) (.pointer (some ((⟨g, 0, none⟩ : Addr).add (5 * 4)))) (fun w1 hw h => Pt (elem := 34) Zk Zk Zd) ?_
  refine ZB 17 (Ln 34 ((⟨g, 0, none⟩ : Addr).add (5 * 4))) (r5.1.val) (fun w1 hw h => run_ldA Zk Zk (hrd _ h 5 r5 rfl)) ?_
  refine ZV (.tuple #[TV.val ⟨r0.1, r1.1, r2.1, r3.1, r4.1, r5.1⟩, P5 A n c x1]) (fun w1 hw h => ⟨⟨r0.1, r1.1, r2.1, r3.1, r4.1, r5.1⟩, rfl, hw, fun w'' k1 k2 => by have k := (show RowQ x1.syn w.heap.size (some ⟨g, 0, none⟩, yc) [r0, r1, r2, r3, r4, r5] w'' from h w'' k1 k2).num; exact ⟨k r0 Zs, k r1 Zs, k r2 Zs, k r3 Zs, k r4 Zs, k r5 Zs⟩⟩)
 obtain ⟨p, hp⟩ : ∃ p, p = Q2 ws x1 := ⟨_, rfl⟩
 refine ZR ?_
 refine ZJ (decide ((rs.length : Int) < 6)) true Zp ?_
 refine K0.callv (fun w1 hw h => by have t := ratField_n (c := c) (x := x1) (hs.below hw) (show RowQ x1.syn w.heap.size y rs w1 from h).own; rw [← hp] at t; exact t) Zk (fun r => ?_)
 refine K0.run Zk (stop := 1000) 7 _ ?_
 refine ZS 2 ?_
 refine K0.make (Li (80) 1 #[(0, r.val)]) (Ki 1) (L8 34 r.cl.toArray) Zk (fun w1 hw h => Kb Zk) (fun gb => ?_)
 refine ZS 3 ?_
 refine K0.mutOp (L := bl y.1) (val := fun (z : Option Addr × Nat) => .slice z.1 (rs.length + 1) z.2) (Φ' := fun (z : Option Addr × Nat) v => RowQ p.2.syn w.heap.size z (rs ++ [(r, p.1)]) v) (G := fun (z : Option Addr × Nat) v => K6 v w.heap.size 34 4 z.1 (rs.length + 1) z.2 ((rs ++ [(r, p.1)]).flatMap rcl) ∧ ∀ r' ∈ rs ++ [(r, p.1)], ∀ b ∈ bl z.1, b ∉ qblk r'.1) (M2 80 80 (.slice y.1 rs.length y.2) (Ki 1 gb)) (fun w1 hw h => rowq_app (show RowQ x1.syn w.heap.size y rs w1 from h.1.1) hw.size h.1.2.1 h.1.2.2 h.2 Zo) (fun w1 h => fun b hb => ⟨((show RowQ x1.syn w.heap.size y rs w1 from h.1.1).own.lt b hb).1, ((show RowQ x1.syn w.heap.size y rs w1 from h.1.1).own.blk b hb).2⟩) (fun z wa wb e1 e2 h hG => RowQ.left (show RowQ x1.syn w.heap.size y rs wa from h.1.1) h.1.2.1 h.1.2.2 (fun hx => by rw [hp]; exact ratR_mono hx) e1 e2 hG) Zk Zk (fun z => ?_)
 refine ZR ?_
 have hlen : (rs ++ [(r, p.1)]).length = rs.length + 1 := by simp
 refine K0.slot 5 (.int .i64 (IntKind.i64.wrap ((rs.length : Int) + 1))) (.int .i64 ((rs ++ [(r, p.1)]).length : Int)) Zk (by rw [IntWalk.i64_in _ Zo, hlen]; rfl) ?_
 refine K0.slot 4 (.slice z.1 (rs.length + 1) z.2) (.slice z.1 (rs ++ [(r, p.1)]).length z.2) Zk (by rw [hlen]) ?_
 refine K0.next (⟨(rs ++ [(r, p.1)], p.2, z), by show (rs ++ [(r, p.1)]).length ≤ 6; rw [hlen]; omega, by show ratsR ws (rs ++ [(r, p.1)]).length x = ((rs ++ [(r, p.1)]).map (·.2), p.2); rw [hlen]; show ((ratsR ws rs.length x).1 ++ [(Q2 ws (ratsR ws rs.length x).2).1], (Q2 ws (ratsR ws rs.length x).2).2) = _; rw [hrs, hp]; simp⟩) Zk (by show 6 - (rs ++ [(r, p.1)]).length < 6 - rs.length; rw [hlen]; omega) ⟨Zk, Zk, Zk⟩ (fun u h => h)
theorem stR_stop {m : Nat} {acc : List (Int × Co)} (h : ¬ (x.i < ws.length ∧ x.syn = false)) : stR ws m x acc = (acc, x) := by
 cases m with
 | zero => rfl
 | succ m => exact if_neg h
theorem stR_go {m : Nat} {acc : List (Int × Co)} (h : x.i < ws.length ∧ x.syn = false) : stR ws (m + 1) x acc = stR ws m (colR ws (Pf ws x).2).2 (acc ++ [((Pf ws x).1, (colR ws (Pf ws x).2).1)]) := if_pos h
theorem parseStops_m (hs : WsAt w A n ws) : Calls Tryz.prog 152 #[P5 A n c x] w (K5 w (fun y : Option Addr × Nat => .tuple #[.slice y.1 (Pk ws x).1.length y.2, P5 A n c (Pk ws x).2]) fun y u => K6 u 0 104 5 y.1 (Pk ws x).1.length y.2 (stC (Pk ws x).1)) := by
 have hln := hs.at_.1
 have hn := hs.len
 obtain ⟨S, hS⟩ : ∃ S, S = Pk ws x := ⟨_, rfl⟩
 rw [← hS]
 refine K0.enter Tryz.func152 rfl ?_
 refine ZR ?_
 refine K0.make (Li 26 0 #[]) (Ki 0) (fun g u => K6 u w.heap.size 104 5 (some ⟨g, 0, none⟩) 0 0 []) Zk (fun w1 hw h => make_nilS (make_nil Zk hw.size)) (fun y0 => ?_)
 refine ZS 7 ?_
 refine K0.loop (ι := {q : Nat × Q7 × List (Int × Co) × (Option Addr × Nat) // stR ws q.1 q.2.1 q.2.2.1 = S ∧ ws.length - q.2.1.i ≤ q.1 ∧ q.2.2.1.length + q.1 ≤ ws.length}) 40 (fun q => ⟨[(1, .p 1 0), (3, .p 3 0), (4, .v (.slice q.1.2.2.2.1 q.1.2.2.1.length q.1.2.2.2.2))], [(1, [.v (.slice A n c), .v (.int .i64 (q.1.2.1).i), .v (.bool (q.1.2.1).syn), .v (.bool (q.1.2.1).rng)]), (3, [.v (.slice none 0 0), .v (.int .i64 0), .v (.bool false), .v (.bool false)])]⟩) (fun q u => K6 u w.heap.size 104 5 q.1.2.2.2.1 q.1.2.2.1.length q.1.2.2.2.2 (stC q.1.2.2.1)) (fun q => q.1.1) (⟨(ws.length, x, [], (some ⟨y0, 0, none⟩, 0)), hS.symm, by omega, by simp⟩) Zk (fun _ => by kernel_rfl) ⟨Zk, Zk, Zk⟩ (fun u h => h.2) ?_
 rintro ⟨⟨m, x1, acc, y⟩, hst, hm, hacc⟩ gg
 have hst : stR ws m x1 acc = S := hst
 have hm : ws.length - x1.i ≤ m := hm
 have hacc : acc.length + m ≤ ws.length := hacc
 by_cases hi : x1.i < n
 case neg =>
  obtain rfl : S = (acc, x1) := by rw [← hst]; exact stR_stop (fun h => hi (by have := h.1; omega))
  refine ZS 7 ?_
  refine ZT 16 (.bool (decide ((x1.i : Int) < (n : Int)))) (.bool false) (by rw [decide_eq_false Zo]) ?_
  refine ZI false ?_
  refine K0.leave Zk ?_
  refine ZR ?_
  refine ZV (.tuple #[.slice y.1 acc.length y.2, P5 A n c x1]) (fun w1 hw h => ⟨y, rfl, hw, fun w'' k1 k2 => (show K6 w'' w.heap.size 104 5 y.1 acc.length y.2 (stC acc) from h w'' k1 k2).rebase fun _ _ => Nat.zero_le _⟩)
 by_cases hsy : x1.syn = false
 case neg =>
  obtain rfl : S = (acc, x1) := by rw [← hst]; exact stR_stop (fun h => hsy h.2)
  refine ZS 7 ?_
  refine ZT 16 (.bool (decide ((x1.i : Int) < (n : Int)))) (.bool true) (by rw [decide_eq_true Zo]) ?_
  refine ZJ ((!x1.syn)) false (by simpa using hsy) ?_
  refine K0.leave Zk ?_
  refine ZR ?_
  refine ZV (.tuple #[.slice y.1 acc.length y.2, P5 A n c x1]) (fun w1 hw h => ⟨y, rfl, hw, fun w'' k1 k2 => (show K6 w'' w.heap.size 104 5 y.1 acc.length y.2 (stC acc) from h w'' k1 k2).rebase fun _ _ => Nat.zero_le _⟩)
 obtain ⟨m, rfl⟩ : ∃ j, m = j + 1 := ⟨m - 1, by omega⟩
 rw [stR_go ⟨by omega, hsy⟩] at hst
 have ia : (Pf ws x1).2.i = x1.i + 1 := by rw [num_i, fld_up Zo]
 have ib : (Pf ws x1).2.i ≤ (colR ws (Pf ws x1).2).2.i := by rw [col_i]; exact fld_ge
 obtain ⟨a, ha⟩ : ∃ a, a = Pf ws x1 := ⟨_, rfl⟩
 obtain ⟨b, hb⟩ : ∃ b, b = colR ws a.2 := ⟨_, rfl⟩
 rw [← ha, ← hb] at hst
 rw [← ha] at ia ib
 rw [← hb] at ib
 refine ZS 7 ?_
 refine ZT 16 (.bool (decide ((x1.i : Int) < (n : Int)))) (.bool true) (by rw [decide_eq_true Zo]) ?_
 refine ZJ ((!x1.syn)) true (by rw [hsy]; rfl) ?_
 refine ZC (fun w1 hw h => by have t := number_m45 (c := c) (x := x1) (hs.below hw); rw [← ha] at t; exact t) fun z1 => ?_
 refine K0.callv (fun w1 hw h => by have t := colorField_m (c := c) (x := a.2) (hs.below hw); rw [← hb] at t; exact t) Zk (fun z2 => ?_)
 refine K0.run Zk (stop := 1000) 7 _ ?_
 refine ZS 4 ?_
 refine K0.make (Li (26) 1 #[(0, .agg (P3 (a.1, b.1)).toArray)]) (Ki 1) (L8 104 (P3 (a.1, b.1)).toArray) Zk (fun w1 hw h => Kb Zk) (fun gb => ?_)
 refine ZS 5 ?_
 refine K0.mutOp (L := bl y.1) (val := fun (z : Option Addr × Nat) => .slice z.1 (acc.length + 1) z.2) (Φ' := fun (z : Option Addr × Nat) v => K6 v w.heap.size 104 5 z.1 (acc.length + 1) z.2 (stC (acc ++ [(a.1, b.1)]))) (G := fun (z : Option Addr × Nat) v => K6 v w.heap.size 104 5 z.1 (acc.length + 1) z.2 (stC (acc ++ [(a.1, b.1)]))) (M2 26 26 (.slice y.1 acc.length y.2) (Ki 1 gb)) (fun w1 hw h => app_stop (show K6 w1 w.heap.size 104 5 y.1 acc.length y.2 (stC acc) from h.1.1.1) hw.size h.2 Zo) (fun w1 h => fun b hb => ⟨((show K6 w1 w.heap.size 104 5 y.1 acc.length y.2 (stC acc) from h.1.1.1).lt b hb).1, ((show K6 w1 w.heap.size 104 5 y.1 acc.length y.2 (stC acc) from h.1.1.1).blk b hb).2⟩) (fun z wa wb e1 e2 h hG => hG) Zk Zk (fun z => ?_)
 refine ZS 7 ?_
 have hlen : (acc ++ [(a.1, b.1)]).length = acc.length + 1 := by simp
 refine K0.slot 4 (.slice z.1 (acc.length + 1) z.2) (.slice z.1 (acc ++ [(a.1, b.1)]).length z.2) Zk (by rw [hlen]) ?_
 refine K0.next (⟨(m, b.2, acc ++ [(a.1, b.1)], z), hst, by show ws.length - b.2.i ≤ m; omega, by show (acc ++ [(a.1, b.1)]).length + m ≤ ws.length; rw [hlen]; omega⟩) Zk (by show m < m + 1; omega) ⟨Zk, Zk, Zk⟩ (fun u h => by show K6 u w.heap.size 104 5 z.1 (acc ++ [(a.1, b.1)]).length z.2 (stC (acc ++ [(a.1, b.1)])); rw [hlen]; exact h)
end
end
section
open Go.RowKit
--ATNAMES
theorem quads_len4 : ∀ b : List UInt8, (Ld b).length = b.length / 4
 | [] => rfl
 | [_] => by simp [Ld]
 | [_, _] => by simp [Ld]
 | [_, _, _] => by simp [Ld]
 | r :: g :: b :: a :: l => by
  have ih := quads_len4 l
  show (Ld l).length + 1 = _
  simp only [List.length_cons]; omega
section
variable {w : World} {A A2 : Option Addr} {n c n2 c2 : Nat} {ws l : WS} {x : Q7} {m k : Int} {B : Bool}
theorem size_v (hB : Pj m k = B) : Calls Tryz.prog 183 #[.int .i64 m, .int .i64 k] w (K5 w (fun _ : Unit => .bool B) fun _ _ => True) := by
 refine K0.enter Tryz.func183 rfl ?_
 refine ZS 3 ?_
 by_cases h0 : 1 ≤ m
 case neg =>
  refine ZT 7 (.bool (decide (m ≥ 1))) (.bool false) (by rw [decide_eq_false Zo]) ?_
  exact ZX (.bool false) (by rw [← hB]; unfold Pj; rw [decide_eq_false Zo])
 refine K0.slot 7 (.bool (decide (m ≥ 1))) (.bool true) Zk (by rw [decide_eq_true Zo]) ?_
 refine ZS 7 ?_
 by_cases h1 : m ≤ 4096
 case neg =>
  refine ZT 11 (.bool (decide (m ≤ 4096))) (.bool false) (by rw [decide_eq_false Zo]) ?_
  exact ZX (.bool false) (by rw [← hB]; unfold Pj; rw [decide_eq_false Zo])
 refine K0.slot 11 (.bool (decide (m ≤ 4096))) (.bool true) Zk (by rw [decide_eq_true Zo]) ?_
 refine ZS 11 ?_
 by_cases h2 : 1 ≤ k
 case neg =>
  refine ZT 15 (.bool (decide (k ≥ 1))) (.bool false) (by rw [decide_eq_false Zo]) ?_
  exact ZX (.bool false) (by rw [← hB]; unfold Pj; rw [decide_eq_false Zo])
 refine K0.slot 15 (.bool (decide (k ≥ 1))) (.bool true) Zk (by rw [decide_eq_true Zo]) ?_
 refine ZS 15 ?_
 by_cases h3 : k ≤ 4096
 case neg =>
  refine ZT 19 (.bool (decide (k ≤ 4096))) (.bool false) (by rw [decide_eq_false Zo]) ?_
  exact ZX (.bool false) (by rw [← hB]; unfold Pj; rw [decide_eq_false Zo])
 refine ZT 19 (.bool (decide (k ≤ 4096))) (.bool true) (by rw [decide_eq_true Zo]) ?_
 refine ZV (.bool (decide (IntKind.i64.wrap (m * k) ≤ 65536))) (fun w1 hw h => ⟨(), by rw [← hB, wrap_wh ⟨h0, h1⟩ ⟨h2, h3⟩]; unfold Pj; congr 2; exact decide_eq_decide.2 ⟨fun h => ⟨h0, h1, h2, h3, h⟩, fun h => h.2.2.2.2⟩, hw, fun _ _ _ => trivial⟩)
theorem K0.loopAt {P : Program} {Δ : List Deferred} {W : World} {Q : Exit → Act → World → Prop} {Φ : World → Prop} {c : O8} {ι : Type} (c0 : O8) (n : Nat) (f : ι → LS) (Ψ : ι → World → Prop) (μ : ι → Nat) (i0 : ι) (hk : c.k = c0.k) (hb : loopOf c = loopOf c0) (hl : (loopOf c0).isSome = true) (hok : ∀ i, (f i).ok = true) (h0 : (f i0).fits n c.st) (hΨ : ∀ w, Φ w → Ψ i0 w)
 (round : ∀ i g, K0 P Δ W (loopQ P Δ W Q c0.k f n Ψ μ i) (Ψ i) ⟨.code ((loopOf c0).getD .skip), [], (f i).st n g⟩) : K0 P Δ W Q Φ c := by
 rw [← hb] at hl
 rw [← hk, ← hb] at round
 exact K0.loop n f Ψ μ i0 hl hok h0 hΨ round
noncomputable def pimC : O8 :=
 let r := amRun Tryz.prog 1000 1000
 r (amIf false (r (Lx (.v (.tuple #[.slice none 4 0, .int .i64 0])) (r (Lx (.v (.tuple #[.string ⟨#[]⟩, P5 none 0 0 ⟨0, false, true⟩])) (r (Lx (.v (.tuple #[.int .i64 1, P5 none 0 0 ⟨0, false, true⟩])) (r (Lx (.v (.tuple #[.int .i64 1, P5 none 0 0 ⟨0, false, true⟩])) (r (R0 Tryz.f154 #[P5 none 0 0 ⟨0, false, false⟩])))))))))))
@[reducible] def pimF (A : Option Addr) (n c : Nat) (a b : Int) (yi : Nat) (sy yr : Bool) (p : List UInt8) (yA : Option Addr) (yc : Nat) : {q : Nat × (Option Addr × Nat) // q.1 ≤ (Ld p).length} → LS := fun q => ⟨[(2, .p 2 0), (3, .p 3 0), (11, .p 11 0), (12, .v (.slice yA p.length yc)), (14, .p 14 0), (15, .v (.int .i64 ((4 * q.1.1 : Nat) : Int)))], [(2, [.v (.int .i64 0), .v (.int .i64 0), .v (.slice none 0 0)]), (3, [.v (.slice none 0 0), .v (.int .i64 0), .v (.bool false), .v (.bool false)]), (11, [.v (.slice A n c), .v (.int .i64 yi), .v (.bool sy), .v (.bool yr)]), (14, [.v (.int .i64 a), .v (.int .i64 b), .v (.slice q.1.2.1 q.1.1 q.1.2.2)])]⟩
theorem pim_loop {cf : O8} {Φ : World → Prop} {a b : Int} {yi : Nat} {sy yr : Bool} {p : List UInt8} {yA : Option Addr} {yc : Nat} (hkk : cf.k = pimC.k) (hbb : loopOf cf = loopOf pimC) (h0 : (pimF A n c a b yi sy yr p yA yc ⟨(0, (none, 0)), Nat.zero_le _⟩).fits 111 cf.st) (hΨ : ∀ u, Φ u → K6 u 0 5 1 yA p.length yc (bv p)) (hql : (Ld p).length = p.length / 4) (hpl : p.length ≤ 5000) :
 K0 Tryz.prog [] w (bodyPost Tryz.prog Tryz.f154 (K5 w (fun y : Option Addr × Nat => .tuple #[imV ⟨a, b, Ld p⟩ y, P5 A n c ⟨yi, sy, yr⟩]) fun y u => K6 u 0 127 4 y.1 (Ld p).length y.2 (pxC (Ld p)))) Φ cf := by
 refine K0.loopAt pimC 111 (pimF A n c a b yi sy yr p yA yc) (fun q u => K6 u 0 5 1 yA p.length yc (bv p) ∧ K6 u w.heap.size 127 4 q.1.2.1 (q.1.1) q.1.2.2 (pxC ((Ld p).take q.1.1))) (fun q => (Ld p).length - q.1.1) ⟨(0, (none, 0)), Nat.zero_le _⟩ hkk hbb Zk (fun _ => by kernel_rfl) h0 (fun u h => ⟨hΨ u h, K6.nil_⟩) ?_
 rintro ⟨⟨k, z0⟩, hk⟩ gg
 have hk : k ≤ (Ld p).length := hk
 by_cases hlt : k < (Ld p).length
 case neg =>
  have hkn : k = (Ld p).length := by omega
  have hfull : (Ld p).take k = Ld p := List.take_of_length_le Zo
  refine ZR ?_
  refine ZJ (decide (IntKind.i64.wrap (((4 * k : Nat) : Int) + 3) < (p.length : Int))) false (by rw [IntWalk.i64_in _ Zo]; simp; omega) ?_
  refine K0.leave Zk ?_
  refine ZR ?_
  refine ZV (.tuple #[.agg #[.int .i64 a, .int .i64 b, .slice z0.1 k z0.2], P5 A n c ⟨yi, sy, yr⟩]) (fun w1 hw h => ⟨z0, by rw [hkn], hw, fun w'' k1 k2 => by have t := (show K6 w'' 0 5 1 yA p.length yc (bv p) ∧ K6 w'' w.heap.size 127 4 z0.1 (k) z0.2 (pxC ((Ld p).take k)) from h w'' k1 k2).2; rw [hfull, hkn] at t; exact t.rebase fun _ _ => Nat.zero_le _⟩)
 refine K0.pure_ (p := ∃ g, yA = some ⟨g, 0, none⟩) (fun w1 hw h => by obtain ⟨g, hg, _⟩ := (show K6 w1 0 5 1 yA p.length yc (bv p) ∧ K6 w1 w.heap.size 127 4 z0.1 (k) z0.2 (pxC ((Ld p).take k)) from h).1.cells Zo; exact ⟨g, hg⟩) Zk (fun hz => ?_)
 obtain ⟨g, hg⟩ := hz
 subst hg
 obtain ⟨px, hpx⟩ : ∃ px, (Ld p)[k]? = some px := ⟨_, List.getElem?_eq_getElem Zo⟩
 obtain ⟨p1, p2, p3, p4⟩ := quads_get hpx
 refine ZR ?_
 refine ZJ (decide (IntKind.i64.wrap (((4 * k : Nat) : Int) + 3) < (p.length : Int))) true (by rw [IntWalk.i64_in _ Zo]; simp; omega) ?_
 refine K0.slot 92 (.int .i64 (IntKind.i64.wrap (((4 * k : Nat) : Int) + 1))) (.int .i64 ((4 * k + 1 : Nat) : Int)) Zk (by rw [IntWalk.i64_in _ Zo]; congr 1) ?_
 refine K0.slot 97 (.int .i64 (IntKind.i64.wrap (((4 * k : Nat) : Int) + 2))) (.int .i64 ((4 * k + 2 : Nat) : Int)) Zk (by rw [IntWalk.i64_in _ Zo]; congr 1) ?_
 refine K0.slot 102 (.int .i64 (IntKind.i64.wrap (((4 * k : Nat) : Int) + 3))) (.int .i64 ((4 * k + 3 : Nat) : Int)) Zk (by rw [IntWalk.i64_in _ Zo]; congr 1) ?_
 refine ZB 4 (Kx 137 (.slice (some ⟨g, 0, none⟩) p.length yc) ((4 * k : Nat) : Int)) (.pointer (some ((⟨g, 0, none⟩ : Addr).add (4 * k)))) (fun w1 hw h => Kh (k := 4 * k) (elem := 5) Zk Zk Zo) ?_
 refine ZB 5 (Ln 5 ((⟨g, 0, none⟩ : Addr).add (4 * k))) (.int .u8 (px.1.toNat : Int)) (fun w1 hw h => K9 Zk (own_u8 h.1 p1)) ?_
 refine ZB 9 (Kx 137 (.slice (some ⟨g, 0, none⟩) p.length yc) ((4 * k + 1 : Nat) : Int)) (.pointer (some ((⟨g, 0, none⟩ : Addr).add (4 * k + 1)))) (fun w1 hw h => Kh (k := 4 * k + 1) (elem := 5) Zk Zk Zo) ?_
 refine ZB 10 (Ln 5 ((⟨g, 0, none⟩ : Addr).add (4 * k + 1))) (.int .u8 (px.2.1.toNat : Int)) (fun w1 hw h => K9 Zk (own_u8 h.1 p2)) ?_
 refine ZB 14 (Kx 137 (.slice (some ⟨g, 0, none⟩) p.length yc) ((4 * k + 2 : Nat) : Int)) (.pointer (some ((⟨g, 0, none⟩ : Addr).add (4 * k + 2)))) (fun w1 hw h => Kh (k := 4 * k + 2) (elem := 5) Zk Zk Zo) ?_
 refine ZB 15 (Ln 5 ((⟨g, 0, none⟩ : Addr).add (4 * k + 2))) (.int .u8 (px.2.2.1.toNat : Int)) (fun w1 hw h => K9 Zk (own_u8 h.1 p3)) ?_
 refine ZB 19 (Kx 137 (.slice (some ⟨g, 0, none⟩) p.length yc) ((4 * k + 3 : Nat) : Int)) (.pointer (some ((⟨g, 0, none⟩ : Addr).add (4 * k + 3)))) (fun w1 hw h => Kh (k := 4 * k + 3) (elem := 5) Zk Zk Zo) ?_
 refine ZB 20 (Ln 5 ((⟨g, 0, none⟩ : Addr).add (4 * k + 3))) (.int .u8 (px.2.2.2.toNat : Int)) (fun w1 hw h => K9 Zk (own_u8 h.1 p4)) ?_
 refine K0.make (Li (27) 1 #[(0, .agg (Ns px).toArray)]) (Ki 1) (L8 127 (Ns px).toArray) Zk (fun w1 hw h => Kb Zk) (fun gb => ?_)
 refine ZS 23 ?_
 refine K0.take [24] ?_
 refine K0.mutAnyB (L := bl z0.1) (val := fun (z : Option Addr × Nat) => .slice z.1 (k + 1) z.2) (Φ' := fun (z : Option Addr × Nat) u => K6 u 0 5 1 (some ⟨g, 0, none⟩) p.length yc (bv p) ∧ K6 u w.heap.size 127 4 z.1 (k + 1) z.2 (pxC ((Ld p).take k ++ [px]))) (G := fun (z : Option Addr × Nat) u => K6 u w.heap.size 127 4 z.1 (k + 1) z.2 (pxC ((Ld p).take k ++ [px]))) (M2 27 27 (.slice z0.1 k z0.2) (Ki 1 gb)) (fun w1 hw h => app_px h.1.2 hw.size h.2 Zo) (fun u h => fun bb hb => ⟨(h.1.2.lt bb hb).1, (h.1.2.blk bb hb).2⟩) (fun z wa u e1 e2 h hG => ⟨K6.left h.1.1 e2 (ty_ne h.1.1 h.1.2 Zd), hG⟩) Zk Zk (fun z => ?_)
 refine ZR ?_
 refine K0.slot 15 (.int .i64 (IntKind.i64.wrap (((4 * k : Nat) : Int) + 4))) (.int .i64 ((4 * (k + 1) : Nat) : Int)) Zk (by rw [IntWalk.i64_in _ Zo]; congr 1) ?_
 have htk : (Ld p).take (k + 1) = (Ld p).take k ++ [px] := by rw [List.take_add_one, hpx]; rfl
 refine K0.next (⟨(k + 1, z), by show k + 1 ≤ (Ld p).length; omega⟩) Zk (by show (Ld p).length - (k + 1) < (Ld p).length - k; omega) ⟨Zk, Zk, Zk⟩ (fun u h => ⟨h.1, by show K6 u w.heap.size 127 4 z.1 (k + 1) z.2 (pxC ((Ld p).take (k + 1))); rw [htk]; exact h.2⟩)
theorem parseImage_m (hs : WsAt w A n ws) (hr : x.rng = false) : Calls Tryz.prog 154 #[P5 A n c x] w (K5 w (fun y : Option Addr × Nat => .tuple #[imV (imR ws x).1 y, P5 A n c (imR ws x).2]) fun y u => K6 u 0 127 4 y.1 (imR ws x).1.px.length y.2 (pxC (imR ws x).1.px)) := by
 obtain ⟨xi, xs, xr⟩ := x
 have hr : xr = false := hr
 subst hr
 obtain ⟨a, ha⟩ : ∃ a, a = Pf ws ⟨xi, xs, false⟩ := ⟨_, rfl⟩
 obtain ⟨b, hb⟩ : ∃ b, b = Pf ws a.2 := ⟨_, rfl⟩
 have tail : ∀ sz : Bool, (!b.2.rng && Pj a.1 b.1) = sz → ∃ s y, Kv ws ⟨b.2.i, b.2.syn, !sz⟩ = (s, y) ∧ s.length ≤ 10000 ∧ imR ws ⟨xi, xs, false⟩ = (⟨a.1, b.1, Ld ((decL s).getD [])⟩, ⟨y.i, y.syn || Mr sz a.1 b.1 (decL s), y.rng⟩) := fun sz hsz => by
  refine ⟨(Kv ws ⟨b.2.i, b.2.syn, !sz⟩).1, (Kv ws ⟨b.2.i, b.2.syn, !sz⟩).2, rfl, hs.fld, ?_⟩
  subst hsz
  rw [hb, ha]; rfl
 refine K0.enter Tryz.func154 rfl ?_
 refine ZR ?_
 refine ZC (fun w1 hw h => by have t := number_m45 (c := c) (x := ⟨xi, xs, false⟩) (hs.below hw); rw [← ha] at t; exact t) fun z1 => ?_
 refine K0.callv (fun w1 hw h => by have t := number_m45 (c := c) (x := a.2) (hs.below hw); rw [← hb] at t; exact t) Zk (fun z2 => ?_)
 refine K0.run Zk (stop := 1000) 7 _ ?_
 refine ZS 4 ?_
 cases hbr : b.2.rng with
 | true =>
  have hsz : (!b.2.rng && Pj a.1 b.1) = false := by rw [hbr]; rfl
  obtain ⟨s, y, hf, hfl, e⟩ := tail false hsz
  have hf : Kv ws ⟨b.2.i, b.2.syn, true⟩ = (s, y) := hf
  rw [e]
  refine ZT 32 (.bool (!b.2.rng)) (.bool false) (by rw [hbr]; rfl) ?_
  refine ZC (fun w1 hw h => by have t := field_m (c := c) (x := ⟨b.2.i, b.2.syn, true⟩) (hs.below hw); rw [hf] at t; exact t) fun z3 => ?_
  cases hd : decL s with
  | none =>
   have e2 : (y.syn || Mr false a.1 b.1 none) = true := by simp [Mr]
   rw [e2]
   refine ZC (fun w1 hw h => rdecode_n hd Zo) fun z4 => ?_
   refine ZI true ?_
   refine K0.un Zk ?_
   refine ZR ?_
   refine ZI false ?_
   refine ZV (.tuple #[imV ⟨a.1, b.1, []⟩ (none, 0), P5 A n c ⟨y.i, true, y.rng⟩]) (fun w1 hw h => ⟨(none, 0), rfl, hw, fun w'' k1 k2 => K6.nil_⟩)
  | some p =>
   have hl2 : 2 * p.length = s.length := by have := Qw hd; rw [← this, Na]
   have hql := quads_len4 p
   refine ZD 9 (fun w1 hw h => rdecode_s hd Zo) fun yd => ?_
   by_cases h4 : p.length % 4 = 0
   case neg =>
    have e2 : (y.syn || Mr false a.1 b.1 (some p)) = true := by simp [Mr, h4]
    rw [e2]
    obtain ⟨yA, yc⟩ := yd
    refine ZT 61 (.bool (((p.length : Int).tmod 4) != 0)) (.bool true) (by rw [rem4]; simp [h4]) ?_
    refine ZI true ?_
    exact pim_loop (a := a.1) (b := b.1) (p := p) Zk Zk ⟨Zk, Zk, Zk⟩ (fun u h => h.2) hql Zo
   have e2 : (y.syn || Mr false a.1 b.1 (some p)) = y.syn := by simp [Mr, h4]
   rw [e2]
   obtain ⟨yA, yc⟩ := yd
   refine ZT 61 (.bool (((p.length : Int).tmod 4) != 0)) (.bool false) (by rw [rem4]; simp [h4]) ?_
   refine ZI false ?_
   exact pim_loop (a := a.1) (b := b.1) (p := p) Zk Zk ⟨Zk, Zk, Zk⟩ (fun u h => h.2) hql Zo
 | false =>
  refine ZT 32 (.bool (!b.2.rng)) (.bool true) (by rw [hbr]; rfl) ?_
  cases hsz2 : Pj a.1 b.1 with
  | false =>
   have hsz : (!b.2.rng && Pj a.1 b.1) = false := by rw [hbr, hsz2]; rfl
   obtain ⟨s, y, hf, hfl, e⟩ := tail false hsz
   have hf : Kv ws ⟨b.2.i, b.2.syn, true⟩ = (s, y) := hf
   rw [e]
   refine ZC (fun w1 hw h => size_v hsz2) fun z9 => ?_
   refine ZC (fun w1 hw h => by have t := field_m (c := c) (x := ⟨b.2.i, b.2.syn, true⟩) (hs.below hw); rw [hf] at t; exact t) fun z3 => ?_
   cases hd : decL s with
   | none =>
    have e2 : (y.syn || Mr false a.1 b.1 none) = true := by simp [Mr]
    rw [e2]
    refine ZC (fun w1 hw h => rdecode_n hd Zo) fun z4 => ?_
    refine ZI true ?_
    refine K0.un Zk ?_
    refine ZR ?_
    refine ZI false ?_
    refine ZV (.tuple #[imV ⟨a.1, b.1, []⟩ (none, 0), P5 A n c ⟨y.i, true, y.rng⟩]) (fun w1 hw h => ⟨(none, 0), rfl, hw, fun w'' k1 k2 => K6.nil_⟩)
   | some p =>
    have hl2 : 2 * p.length = s.length := by have := Qw hd; rw [← this, Na]
    have hql := quads_len4 p
    refine ZD 9 (fun w1 hw h => rdecode_s hd Zo) fun yd => ?_
    by_cases h4 : p.length % 4 = 0
    case neg =>
     have e2 : (y.syn || Mr false a.1 b.1 (some p)) = true := by simp [Mr, h4]
     rw [e2]
     obtain ⟨yA, yc⟩ := yd
     refine ZT 61 (.bool (((p.length : Int).tmod 4) != 0)) (.bool true) (by rw [rem4]; simp [h4]) ?_
     refine ZI true ?_
     exact pim_loop (a := a.1) (b := b.1) (p := p) Zk Zk ⟨Zk, Zk, Zk⟩ (fun u h => h.2) hql Zo
    have e2 : (y.syn || Mr false a.1 b.1 (some p)) = y.syn := by simp [Mr, h4]
    rw [e2]
    obtain ⟨yA, yc⟩ := yd
    refine ZT 61 (.bool (((p.length : Int).tmod 4) != 0)) (.bool false) (by rw [rem4]; simp [h4]) ?_
    refine ZI false ?_
    exact pim_loop (a := a.1) (b := b.1) (p := p) Zk Zk ⟨Zk, Zk, Zk⟩ (fun u h => h.2) hql Zo
  | true =>
   have hsz : (!b.2.rng && Pj a.1 b.1) = true := by rw [hbr, hsz2]; rfl
   obtain ⟨s, y, hf, hfl, e⟩ := tail true hsz
   have hf : Kv ws ⟨b.2.i, b.2.syn, false⟩ = (s, y) := hf
   rw [e]
   refine ZC (fun w1 hw h => size_v hsz2) fun z9 => ?_
   refine ZC (fun w1 hw h => by have t := field_m (c := c) (x := ⟨b.2.i, b.2.syn, false⟩) (hs.below hw); rw [hf] at t; exact t) fun z3 => ?_
   cases hd : decL s with
   | none =>
    have e2 : (y.syn || Mr true a.1 b.1 none) = true := by simp [Mr]
    rw [e2]
    refine ZC (fun w1 hw h => rdecode_n hd Zo) fun z4 => ?_
    refine ZI true ?_
    refine K0.un Zk ?_
    refine ZR ?_
    refine ZI false ?_
    refine ZV (.tuple #[imV ⟨a.1, b.1, []⟩ (none, 0), P5 A n c ⟨y.i, true, y.rng⟩]) (fun w1 hw h => ⟨(none, 0), rfl, hw, fun w'' k1 k2 => K6.nil_⟩)
   | some p =>
    have hl2 : 2 * p.length = s.length := by have := Qw hd; rw [← this, Na]
    have hql := quads_len4 p
    refine ZD 9 (fun w1 hw h => rdecode_s hd Zo) fun yd => ?_
    by_cases h4 : p.length % 4 = 0
    case neg =>
     have e2 : (y.syn || Mr true a.1 b.1 (some p)) = true := by simp [Mr, h4]
     rw [e2]
     obtain ⟨yA, yc⟩ := yd
     refine ZT 61 (.bool (((p.length : Int).tmod 4) != 0)) (.bool true) (by rw [rem4]; simp [h4]) ?_
     refine ZI true ?_
     exact pim_loop (a := a.1) (b := b.1) (p := p) Zk Zk ⟨Zk, Zk, Zk⟩ (fun u h => h.2) hql Zo
    have hsz3 : 1 ≤ a.1 ∧ a.1 ≤ 4096 ∧ 1 ≤ b.1 ∧ b.1 ≤ 4096 ∧ a.1 * b.1 ≤ 65536 := of_decide_eq_true (show decide _ = true from hsz2)
    have hpr : 0 ≤ 4 * a.1 * b.1 ∧ 4 * a.1 * b.1 ≤ 262144 := by have := Int.mul_nonneg (show 0 ≤ a.1 by omega) (show 0 ≤ b.1 by omega); rw [Int.mul_assoc]; omega
    by_cases hlen : (p.length : Int) = 4 * a.1 * b.1
    case neg =>
     have e2 : (y.syn || Mr true a.1 b.1 (some p)) = true := by simp [Mr, h4, hlen]
     rw [e2]
     obtain ⟨yA, yc⟩ := yd
     refine K0.slot 61 (.bool (((p.length : Int).tmod 4) != 0)) (.bool false) Zk (by rw [rem4]; simp [h4]) ?_
     refine ZS 15 ?_
     refine K0.slot 67 (.int .i64 (IntKind.i64.wrap (4 * a.1))) (.int .i64 (4 * a.1)) Zk (by rw [IntWalk.i64_in _ Zo]) ?_
     refine ZS 17 ?_
     refine ZT 69 (.int .i64 (IntKind.i64.wrap (4 * a.1 * b.1))) (.int .i64 (4 * a.1 * b.1)) (by rw [IntWalk.i64_in _ Zo]) ?_
     refine ZJ (((p.length : Int) != 4 * a.1 * b.1)) true (bne_iff_ne.2 hlen) ?_
     exact pim_loop (a := a.1) (b := b.1) (p := p) Zk Zk ⟨Zk, Zk, Zk⟩ (fun u h => h.2) hql Zo
    have e2 : (y.syn || Mr true a.1 b.1 (some p)) = y.syn := by simp [Mr, h4, hlen]
    rw [e2]
    obtain ⟨yA, yc⟩ := yd
    refine K0.slot 61 (.bool (((p.length : Int).tmod 4) != 0)) (.bool false) Zk (by rw [rem4]; simp [h4]) ?_
    refine ZS 15 ?_
    refine K0.slot 67 (.int .i64 (IntKind.i64.wrap (4 * a.1))) (.int .i64 (4 * a.1)) Zk (by rw [IntWalk.i64_in _ Zo]) ?_
    refine ZS 17 ?_
    refine ZT 69 (.int .i64 (IntKind.i64.wrap (4 * a.1 * b.1))) (.int .i64 (4 * a.1 * b.1)) (by rw [IntWalk.i64_in _ Zo]) ?_
    refine ZJ (((p.length : Int) != 4 * a.1 * b.1)) false (bne_eq_false_iff_eq.2 hlen) ?_
    exact pim_loop (a := a.1) (b := b.1) (p := p) Zk Zk ⟨Zk, Zk, Zk⟩ (fun u h => h.2) hql Zo
end
end
section
open Go.RowKit
--ATNAMES
structure PRf (s : Bool) (P : Pn) (q : PM) (u : World) : Prop where
 st : K6 u 0 104 5 q.sA P.stops.length q.sc (stC P.stops)
 px : K6 u 0 127 4 q.xA P.im.px.length q.xc (pxC P.im.px)
 tr : (P.kind < 2 ∧ P.T = Nw ∧ q.t = tv0) ∨ (2 ≤ P.kind ∧ AO s q.t P.T u)
theorem AO.isA {s : Bool} {t : TV} {T : Aff} {u : World} (h : AO s t T u) : IsA t T 125 u := ⟨h.a.q, h.b.q, h.c.q, h.d.q, h.e.q, h.f.q⟩
theorem AO.n {t : TV} {T : Aff} {u : World} (h : AO false t T u) : IsAN t T 125 u := ⟨h.a.nn, h.b.nn, h.c.nn, h.d.nn, h.e.nn, h.f.nn⟩
theorem AO.flag {s s' : Bool} {t : TV} {T : Aff} {u : World} (h : AO s t T u) (hs : s = true → s' = true) : AO s' t T u := ⟨h.a.flag hs, h.b.flag hs, h.c.flag hs, h.d.flag hs, h.e.flag hs, h.f.flag hs⟩
theorem PRf.rd {s : Bool} {P : Pn} {q : PM} {w : World} (h : PRf s P q w) : PRd P q 125 w := by
 refine ⟨h.st.rowA st1_len rfl, h.px.rowA px1_len rfl, ?_⟩
 rcases h.tr with ⟨_, h1, h2⟩ | ⟨_, h⟩
 ·rw [h1, h2]; exact .zero
 ·exact h.isA
section
variable {w : World} {A A2 : Option Addr} {n c n2 c2 : Nat} {ws l : WS} {x : Q7}
theorem fld_rng : (Kv ws x).2.rng = x.rng := by
 unfold Kv; split <;> rfl
theorem fld_syn (h : x.syn = true) : (Kv ws x).2.syn = true := by
 unfold Kv; split
 ·rfl
 ·exact h
theorem cho_rng : (Q5 ws l x).2.rng = x.rng := by
 unfold Q5; split <;> exact fld_rng
theorem rat_rng : (Q2 ws x).2.rng = x.rng := by
 unfold Q2; split <;> exact fld_rng
theorem af_rng : (afR ws x).2.rng = x.rng := by
 show (Q2 ws _).2.rng = x.rng
 simp only [rat_rng]
theorem num_syn (h : x.syn = true) : (Pf ws x).2.syn = true := by
 show ((Kv ws x).2.syn || _) = true
 rw [fld_syn h]; rfl
theorem stops_syn (h : x.syn = true) : (Pk ws x).2.syn = true := by
 unfold Pk
 rw [stR_stop (fun k => by rw [h] at k; exact absurd k.2 Zs)]; exact h
theorem im_syn (h : x.syn = true) : (imR ws x).2.syn = true := by
 have h2 : (Pf ws (Pf ws ⟨x.i, x.syn, false⟩).2).2.syn = true := num_syn (num_syn h)
 show ((Kv ws _).2.syn || _) = true
 rw [Bool.or_eq_true]
 exact .inl (fld_syn h2)
theorem spreads_m : Calls Tryz.prog 63 #[] w (K5 w (fun y : Nat => .slice (some ⟨y, 0, none⟩) 4 4) fun y u => L6 u (some ⟨y, 0, none⟩) 4 Kq) := by
 refine K0.enter Tryz.func63 rfl ?_
 refine ZR ?_
 refine K0.make (Li (64) 4 #[(0, K4 [110, 111, 110, 101]), (1, K4 [112, 97, 100]), (2, K4 [114, 101, 112, 101, 97, 116]), (3, K4 [114, 101, 102, 108, 101, 99, 116])]) (Ki 4) (L8 9 #[K4 [110, 111, 110, 101], K4 [112, 97, 100], K4 [114, 101, 112, 101, 97, 116], K4 [114, 101, 102, 108, 101, 99, 116]]) Zk (fun w1 hw h => Kb Zk) (fun y => ?_)
 refine ZR ?_
 refine ZV (.slice (some ⟨y, 0, none⟩) 4 4) (fun w1 hw h => ⟨y, rfl, hw, fun w'' k1 k2 => Lv (h w'' k1 k2).2 rfl⟩)
theorem samplings_m : Calls Tryz.prog 67 #[] w (K5 w (fun y : Nat => .slice (some ⟨y, 0, none⟩) 3 3) fun y u => L6 u (some ⟨y, 0, none⟩) 3 ([] :: Mf)) := by
 refine K0.enter Tryz.func67 rfl ?_
 refine ZR ?_
 refine K0.make (Li (64) 3 #[(0, K4 []), (1, K4 [110, 101, 97, 114, 101, 115, 116]), (2, K4 [98, 105, 108, 105, 110, 101, 97, 114])]) (Ki 3) (L8 9 #[K4 [], K4 [110, 101, 97, 114, 101, 115, 116], K4 [98, 105, 108, 105, 110, 101, 97, 114]]) Zk (fun w1 hw h => Kb Zk) (fun y => ?_)
 refine ZR ?_
 refine ZV (.slice (some ⟨y, 0, none⟩) 3 3) (fun w1 hw h => ⟨y, rfl, hw, fun w'' k1 k2 => Lv (h w'' k1 k2).2 rfl⟩)
theorem linear_m45 (hs : WsAt w A n ws) : Calls Tryz.prog 76 #[P5 A n c x] w (K5 w (fun q : PM => .tuple #[O5 (linR ws x).1 q, P5 A n c (linR ws x).2]) fun q u => PRf (linR ws x).2.syn (linR ws x).1 q u) := by
 obtain ⟨p, e_p⟩ : ∃ z, z = ptR ws x := ⟨_, rfl⟩
 obtain ⟨r, e_r⟩ : ∃ z, z = ptR ws p.2 := ⟨_, rfl⟩
 obtain ⟨k, e_k⟩ : ∃ z, z = Q5 ws Kq r.2 := ⟨_, rfl⟩
 obtain ⟨t, e_t⟩ : ∃ z, z = afR ws k.2 := ⟨_, rfl⟩
 obtain ⟨m2, e_m2⟩ : ∃ z, z = Pk ws t.2 := ⟨_, rfl⟩
 have e : linR ws x = ((⟨2, Pp, p.1.1, p.1.2, r.1.1, r.1.2, 0, m2.1, k.1, im0, 0, t.1⟩ : Pn), m2.2) := by rw [e_m2, e_t, e_k, e_r, e_p]; rfl
 rw [e]
 refine K0.enter Tryz.func76 rfl ?_
 refine ZR ?_
 refine ZC (fun w1 hw h => by have t := parsePoint_m (c := c) (x := x) (hs.below hw); rw [← e_p] at t; exact t) fun u_p => ?_
 refine ZC (fun w1 hw h => by have t := parsePoint_m (c := c) (x := p.2) (hs.below hw); rw [← e_r] at t; exact t) fun u_r => ?_
 refine ZC (fun w1 hw h => spreads_m) fun s_k => ?_
 refine ZC (fun w1 hw h => by have t := choice_m (c := c) (c2 := 4) (x := r.2) (hs.below hw) h.2 Zd; rw [← e_k] at t; exact t) fun u_k => ?_
 refine ZC (fun w1 hw h => by have t := parseTransform_m (c := c) (x := k.2) (hs.below hw); rw [← e_t] at t; exact t) fun u_t => ?_
 refine ZC (fun w1 hw h => by have t := parseStops_m (c := c) (x := t.2) (hs.below hw); rw [← e_m2] at t; exact t) fun u_m2 => ?_
 refine ZV (.tuple #[O5 (⟨2, Pp, p.1.1, p.1.2, r.1.1, r.1.2, 0, m2.1, k.1, im0, 0, t.1⟩ : Pn) (⟨u_m2.1, u_m2.2, none, 0, u_t⟩ : PM), P5 A n c m2.2]) (fun w1 hw h => ⟨(⟨u_m2.1, u_m2.2, none, 0, u_t⟩ : PM), rfl, hw, fun w'' k1 k2 => ⟨(h w'' k1 k2).2, K6.nil_, .inr ⟨(show (2 : Int) ≤ 2 by decide), ((h w'' k1 k2).1.2).flag (fun h9 => by rw [e_m2]; exact stops_syn h9)⟩⟩⟩)
theorem radial_m45 (hs : WsAt w A n ws) : Calls Tryz.prog 77 #[P5 A n c x] w (K5 w (fun q : PM => .tuple #[O5 (radR ws x).1 q, P5 A n c (radR ws x).2]) fun q u => PRf (radR ws x).2.syn (radR ws x).1 q u) := by
 obtain ⟨p, e_p⟩ : ∃ z, z = ptR ws x := ⟨_, rfl⟩
 obtain ⟨r, e_r⟩ : ∃ z, z = Pf ws p.2 := ⟨_, rfl⟩
 obtain ⟨k, e_k⟩ : ∃ z, z = Q5 ws Kq r.2 := ⟨_, rfl⟩
 obtain ⟨t, e_t⟩ : ∃ z, z = afR ws k.2 := ⟨_, rfl⟩
 obtain ⟨m2, e_m2⟩ : ∃ z, z = Pk ws t.2 := ⟨_, rfl⟩
 have e : radR ws x = ((⟨3, Pp, p.1.1, p.1.2, 0, 0, r.1, m2.1, k.1, im0, 0, t.1⟩ : Pn), m2.2) := by rw [e_m2, e_t, e_k, e_r, e_p]; rfl
 rw [e]
 refine K0.enter Tryz.func77 rfl ?_
 refine ZR ?_
 refine ZC (fun w1 hw h => by have t := parsePoint_m (c := c) (x := x) (hs.below hw); rw [← e_p] at t; exact t) fun u_p => ?_
 refine ZC (fun w1 hw h => by have t := number_m45 (c := c) (x := p.2) (hs.below hw); rw [← e_r] at t; exact t) fun u_r => ?_
 refine ZC (fun w1 hw h => spreads_m) fun s_k => ?_
 refine ZC (fun w1 hw h => by have t := choice_m (c := c) (c2 := 4) (x := r.2) (hs.below hw) h.2 Zd; rw [← e_k] at t; exact t) fun u_k => ?_
 refine ZC (fun w1 hw h => by have t := parseTransform_m (c := c) (x := k.2) (hs.below hw); rw [← e_t] at t; exact t) fun u_t => ?_
 refine ZC (fun w1 hw h => by have t := parseStops_m (c := c) (x := t.2) (hs.below hw); rw [← e_m2] at t; exact t) fun u_m2 => ?_
 refine ZV (.tuple #[O5 (⟨3, Pp, p.1.1, p.1.2, 0, 0, r.1, m2.1, k.1, im0, 0, t.1⟩ : Pn) (⟨u_m2.1, u_m2.2, none, 0, u_t⟩ : PM), P5 A n c m2.2]) (fun w1 hw h => ⟨(⟨u_m2.1, u_m2.2, none, 0, u_t⟩ : PM), rfl, hw, fun w'' k1 k2 => ⟨(h w'' k1 k2).2, K6.nil_, .inr ⟨(show (2 : Int) ≤ 3 by decide), ((h w'' k1 k2).1.2).flag (fun h9 => by rw [e_m2]; exact stops_syn h9)⟩⟩⟩)
theorem pattern_m45 (hs : WsAt w A n ws) (hr : x.rng = false) : Calls Tryz.prog 78 #[P5 A n c x] w (K5 w (fun q : PM => .tuple #[O5 (patR ws x).1 q, P5 A n c (patR ws x).2]) fun q u => PRf (patR ws x).2.syn (patR ws x).1 q u) := by
 obtain ⟨k, e_k⟩ : ∃ z, z = Q5 ws Kq x := ⟨_, rfl⟩
 obtain ⟨j, e_j⟩ : ∃ z, z = Q5 ws ([] :: Mf) k.2 := ⟨_, rfl⟩
 obtain ⟨t, e_t⟩ : ∃ z, z = afR ws j.2 := ⟨_, rfl⟩
 obtain ⟨m, e_m⟩ : ∃ z, z = imR ws t.2 := ⟨_, rfl⟩
 have e : patR ws x = ((⟨4, Pp, 0, 0, 0, 0, 0, [], k.1, m.1, j.1, t.1⟩ : Pn), m.2) := by rw [e_m, e_t, e_j, e_k]; rfl
 have hrg : t.2.rng = false := by rw [e_t, af_rng, e_j, cho_rng, e_k, cho_rng]; exact hr
 rw [e]
 refine K0.enter Tryz.func78 rfl ?_
 refine ZR ?_
 refine ZC (fun w1 hw h => spreads_m) fun s_k => ?_
 refine ZC (fun w1 hw h => by have t := choice_m (c := c) (c2 := 4) (x := x) (hs.below hw) h.2 Zd; rw [← e_k] at t; exact t) fun u_k => ?_
 refine ZC (fun w1 hw h => samplings_m) fun s_j => ?_
 refine ZC (fun w1 hw h => by have t := choice_m (c := c) (c2 := 3) (x := k.2) (hs.below hw) h.2 Zd; rw [← e_j] at t; exact t) fun u_j => ?_
 refine ZC (fun w1 hw h => by have t := parseTransform_m (c := c) (x := j.2) (hs.below hw); rw [← e_t] at t; exact t) fun u_t => ?_
 refine ZC (fun w1 hw h => by have t := parseImage_m (c := c) (x := t.2) (hs.below hw) hrg; rw [← e_m] at t; exact t) fun u_m => ?_
 refine ZV (.tuple #[O5 (⟨4, Pp, 0, 0, 0, 0, 0, [], k.1, m.1, j.1, t.1⟩ : Pn) (⟨none, 0, u_m.1, u_m.2, u_t⟩ : PM), P5 A n c m.2]) (fun w1 hw h => ⟨(⟨none, 0, u_m.1, u_m.2, u_t⟩ : PM), rfl, hw, fun w'' k1 k2 => ⟨K6.nil_, (h w'' k1 k2).2, .inr ⟨(show (2 : Int) ≤ 4 by decide), ((h w'' k1 k2).1.2).flag (fun h9 => by rw [e_m]; exact im_syn h9)⟩⟩⟩)
theorem parsePaint_m45 (hs : WsAt w A n ws) (hr : x.rng = false) : Calls Tryz.prog 24 #[P5 A n c x] w (K5 w (fun q : PM => .tuple #[O5 (pnR ws x).1 q, P5 A n c (pnR ws x).2]) fun q u => PRf (pnR ws x).2.syn (pnR ws x).1 q u) := by
 obtain ⟨k, ek⟩ : ∃ z, z = Q5 ws kindN x := ⟨_, rfl⟩
 have hkr : k.2.rng = false := by rw [ek, cho_rng]; exact hr
 have e : pnR ws x = (if k.1 = 1 then ((⟨1, (colR ws k.2).1, 0, 0, 0, 0, 0, [], 0, im0, 0, Nw⟩, (colR ws k.2).2) : Pn × Q7) else if k.1 = 2 then linR ws k.2 else if k.1 = 3 then radR ws k.2 else if k.1 = 4 then patR ws k.2 else (pn0, k.2)) := by rw [ek]; rfl
 rw [e]
 have hch : ∀ (w1 : World) (gk : Nat), WsAt w1 A n ws → L8 9 #[K4 [], K4 [115, 111, 108, 105, 100], K4 [108, 105, 110, 101, 97, 114], K4 [114, 97, 100, 105, 97, 108], K4 [112, 97, 116, 116, 101, 114, 110]] gk w1 → Calls Tryz.prog 74 #[P5 A n c x, .slice (some ⟨gk, 0, none⟩) 5 5] w1 (K5 w1 (fun _ : Unit => .tuple #[.int .i64 k.1, P5 A n c k.2]) fun _ _ => True) := fun w1 gk h1 h2 => by
  have t := choice_m (c := c) (x := x) (l := kindN) (n2 := 5) (c2 := 5) h1 (Lv (L := kindN) h2 rfl) Zd
  rw [← ek] at t; exact t
 refine K0.enter Tryz.func24 rfl ?_
 refine ZR ?_
 refine K0.make (Li (64) 5 #[(0, K4 []), (1, K4 [115, 111, 108, 105, 100]), (2, K4 [108, 105, 110, 101, 97, 114]), (3, K4 [114, 97, 100, 105, 97, 108]), (4, K4 [112, 97, 116, 116, 101, 114, 110])]) (Ki 5) (L8 9 #[K4 [], K4 [115, 111, 108, 105, 100], K4 [108, 105, 110, 101, 97, 114], K4 [114, 97, 100, 105, 97, 108], K4 [112, 97, 116, 116, 101, 114, 110]]) Zk (fun w1 hw h => Kb Zk) (fun gk => ?_)
 refine ZR ?_
 refine ZC (fun w1 hw h => hch w1 gk (hs.below hw) h.2) fun u => ?_
 by_cases k1 : k.1 = 1
 case pos =>
  rw [if_pos k1]
  obtain ⟨cc, ec⟩ : ∃ z, z = colR ws k.2 := ⟨_, rfl⟩
  rw [← ec]
  refine ZJ ((k.1 == 1)) true (beq_iff_eq.2 k1) ?_
  refine ZC (fun w1 hw h => by have t := colorField_m (c := c) (x := k.2) (hs.below hw); rw [← ec] at t; exact t) fun v => ?_
  refine ZV (.tuple #[O5 (⟨1, cc.1, 0, 0, 0, 0, 0, [], 0, im0, 0, Nw⟩ : Pn) pm0, P5 A n c cc.2]) (fun w1 hw h => ⟨pm0, rfl, hw, fun w'' k1 k2 => ⟨K6.nil_, K6.nil_, .inl ⟨(show (1 : Int) < 2 by decide), rfl, rfl⟩⟩⟩)
 refine ZJ ((k.1 == 1)) false (beq_eq_false_iff_ne.2 k1) ?_
 by_cases k2 : k.1 = 2
 case pos =>
  rw [if_neg k1, if_pos k2]
  obtain ⟨d, ed⟩ : ∃ z, z = linR ws k.2 := ⟨_, rfl⟩
  rw [← ed]
  refine ZJ ((k.1 == 2)) true (beq_iff_eq.2 k2) ?_
  refine ZC (fun w1 hw h => by have t := linear_m45 (c := c) (x := k.2) (hs.below hw); rw [← ed] at t; exact t) fun v => ?_
  refine ZV (.tuple #[O5 d.1 v, P5 A n c d.2]) (fun w1 hw h => ⟨v, rfl, hw, fun w'' k1 k2 => (h w'' k1 k2).2⟩)
 refine ZJ ((k.1 == 2)) false (beq_eq_false_iff_ne.2 k2) ?_
 by_cases k3 : k.1 = 3
 case pos =>
  rw [if_neg k1, if_neg k2, if_pos k3]
  obtain ⟨d, ed⟩ : ∃ z, z = radR ws k.2 := ⟨_, rfl⟩
  rw [← ed]
  refine ZJ ((k.1 == 3)) true (beq_iff_eq.2 k3) ?_
  refine ZC (fun w1 hw h => by have t := radial_m45 (c := c) (x := k.2) (hs.below hw); rw [← ed] at t; exact t) fun v => ?_
  refine ZV (.tuple #[O5 d.1 v, P5 A n c d.2]) (fun w1 hw h => ⟨v, rfl, hw, fun w'' k1 k2 => (h w'' k1 k2).2⟩)
 refine ZJ ((k.1 == 3)) false (beq_eq_false_iff_ne.2 k3) ?_
 by_cases k4 : k.1 = 4
 case pos =>
  rw [if_neg k1, if_neg k2, if_neg k3, if_pos k4]
  obtain ⟨d, ed⟩ : ∃ z, z = patR ws k.2 := ⟨_, rfl⟩
  rw [← ed]
  refine ZJ ((k.1 == 4)) true (beq_iff_eq.2 k4) ?_
  refine ZC (fun w1 hw h => by have t := pattern_m45 (c := c) (x := k.2) (hs.below hw) hkr; rw [← ed] at t; exact t) fun v => ?_
  refine ZV (.tuple #[O5 d.1 v, P5 A n c d.2]) (fun w1 hw h => ⟨v, rfl, hw, fun w'' k1 k2 => (h w'' k1 k2).2⟩)
 rw [if_neg k1, if_neg k2, if_neg k3, if_neg k4]
 refine ZJ ((k.1 == 4)) false (beq_eq_false_iff_ne.2 k4) ?_
 refine ZV (.tuple #[O5 pn0 pm0, P5 A n c k.2]) (fun w1 hw h => ⟨pm0, rfl, hw, fun w'' k1 k2 => ⟨K6.nil_, K6.nil_, .inl ⟨(show (0 : Int) < 2 by decide), rfl, rfl⟩⟩⟩)
theorem complete_v {B : Bool} (hB : (!x.syn && ((x.i : Int) == (n : Int))) = B) : Calls Tryz.prog 25 #[P5 A n c x] w (K5 w (fun _ : Unit => .bool B) fun _ _ => True) := by
 refine K0.enter Tryz.func25 rfl ?_
 refine ZS 4 ?_
 cases hs : x.syn
 ·rw [hs] at hB
  refine ZT 6 (.bool (!x.syn)) (.bool true) (by rw [hs]; rfl) ?_
  exact ZX (.bool ((x.i : Int) == (n : Int))) (by rw [← hB]; rfl)
 ·rw [hs] at hB
  refine ZT 6 (.bool (!x.syn)) (.bool false) (by rw [hs]; rfl) ?_
  exact ZX (.bool false) (by rw [← hB]; rfl)
end
end
end Go.Proofs.YtncodmhgfkailaaGreatDoor
