/-
  Transforms: part two.
-/
import Derived.Test.YtfmcpplkmldhiaaGreatTP
import Derived.Test.YtfmcpplkmldhiaaGreatRx
namespace Go.Proofs.YtfmcpplkmldhiaaGreat
set_option linter.unusedVariables false
set_option linter.unusedSimpArgs false
open Go.RowKit

structure InT (t : TV) (w : World) : Prop where
  a : InR t.a w
  b : InR t.b w
  c : InR t.c w
  d : InR t.d w
  e : InR t.e w
  f : InR t.f w
theorem rd_aff {w : World} {cs : List Value} (h : Rd w shAff cs) : ∃ t : TV, cs = t.cl ∧ InT t w := by
  obtain ⟨_, _, rfl, _, h1, h⟩ := rd_cons h
  obtain ⟨_, _, rfl, _, h2, h⟩ := rd_cons h
  obtain ⟨_, _, rfl, _, h3, h⟩ := rd_cons h
  obtain ⟨_, _, rfl, _, h4, h⟩ := rd_cons h
  obtain ⟨_, _, rfl, _, h5, h⟩ := rd_cons h
  obtain ⟨_, _, rfl, _, h6, h⟩ := rd_cons h
  obtain rfl := h
  obtain ⟨a, rfl, ia⟩ := rd_rat' h1
  obtain ⟨b, rfl, ib⟩ := rd_rat' h2
  obtain ⟨c, rfl, ic⟩ := rd_rat' h3
  obtain ⟨d, rfl, id⟩ := rd_rat' h4
  obtain ⟨e, rfl, ie⟩ := rd_rat' h5
  obtain ⟨f, rfl, if_⟩ := rd_rat' h6
  exact ⟨⟨a, b, c, d, e, f⟩, by simp [TV.cl], ia, ib, ic, id, ie, if_⟩
section
variable {w : World} {t u : TV} {T U : Aff} {K K1 K2 : Nat} {r s : RV} {p q : Rat} {X Y : Int}
theorem inr_q (h : InR r w) (h1 : decide (r.a.n ≤ 20) = true) (h2 : decide (r.b.n ≤ 20) = true) : ∃ q, IsQ r q 20 w := ⟨_, _, _, of_in h.1 (of_decide_eq_true h1), of_in h.2 (of_decide_eq_true h2), rfl⟩
theorem smallT_a (h : smallT t = true) (i : InT t w) : ∃ T, IsA t T 20 w := by
  unfold smallT at h
  simp only [Bool.and_eq_true] at h
  obtain ⟨a1, a2, b1, b2, c1, c2, d1, d2, e1, e2, f1, f2⟩ := h
  obtain ⟨a, ha⟩ := inr_q i.a a1 a2
  obtain ⟨b, hb⟩ := inr_q i.b b1 b2
  obtain ⟨c, hc⟩ := inr_q i.c c1 c2
  obtain ⟨d, hd⟩ := inr_q i.d d1 d2
  obtain ⟨e, he⟩ := inr_q i.e e1 e2
  obtain ⟨f, hf⟩ := inr_q i.f f1 f2
  exact ⟨⟨a, b, c, d, e, f⟩, ha, hb, hc, hd, he, hf⟩
theorem smallT_r (h : smallT ⟨r, s, RV0, RV0, RV0, RV0⟩ = true) (i : InR r w) (j : InR s w) : (∃ p, IsQ r p 20 w) ∧ ∃ q, IsQ s q 20 w := by
  unfold smallT at h
  simp only [Bool.and_eq_true] at h
  exact ⟨inr_q i h.1 h.2.1, inr_q j h.2.2.1 h.2.2.2.1⟩
theorem apply_v {A B e : Int} (hP : atP T X Y = pt A B) (he : atE T X Y = e) (ht : IsA t T K w) (hK : 8 ≤ K ∧ K ≤ 10000) : Calls Tryz.prog 30 #[t.val, pt X Y] w (CallPost w (fun _ : Unit => .tuple #[pt A B, .int .i64 e]) fun _ _ => True) := by
  have := apply_m (X := X) (Y := Y) ht hK
  rwa [hP, he] at this
theorem atP_ex (T : Aff) (X Y : Int) : ∃ A B, atP T X Y = pt A B := by unfold atP; split <;> exact ⟨_, _, rfl⟩
theorem atE_or (T : Aff) (X Y : Int) : atE T X Y = 0 ∨ atE T X Y = 5 ∨ atE T X Y = 6 := by
  unfold atE
  repeat' split
  all_goals simp
def exT : Aff := { affId with a := Rat.divInt 1 2, d := Rat.divInt 1 2 }
theorem ex1 : atP exT 3 (-3) = pt 2 (-1) ∧ atE exT 3 (-3) = 0 := by
  have h : atE exT 3 (-3) = 0 := by decide +kernel
  have h1 : atX exT 3 (-3) = 2 := by decide +kernel
  have h2 : atY exT 3 (-3) = -1 := by decide +kernel
  exact ⟨by unfold atP; rw [if_pos h, h1, h2], h⟩
theorem ex2 : atP (qtA (1 % 4)) 3 5 = pt (-5) 3 ∧ atE (qtA (1 % 4)) 3 5 = 0 := by
  have h : atE (qtA (1 % 4)) 3 5 = 0 := by decide +kernel
  have h1 : atX (qtA (1 % 4)) 3 5 = -5 := by decide +kernel
  have h2 : atY (qtA (1 % 4)) 3 5 = 3 := by decide +kernel
  exact ⟨by unfold atP; rw [if_pos h, h1, h2], h⟩
set_option maxRecDepth 100000 in
set_option maxHeartbeats 2000000 in
theorem tex_m (w : World) : Calls Tryz.prog 9 #[] w (CallPost w (fun _ : Unit => .bool true) fun _ _ => True) := by
  refine Good.enter Tryz.func9 rfl ?_
  refine Good.run (by kernel_rfl) (stop := 1000) 1000 _ ?_
  refine Good.callv (fun w1 hw h => rqfromInts_m (x := 1) (y := 2) (by decide) (by decide)) (by kernel_rfl) (fun f => ?_)
  refine Good.run (by kernel_rfl) (stop := 1000) 1000 _ ?_
  refine Good.callv (fun w1 hw h => scale_m (h.2.n (by decide)).q (h.2.n (by decide)).q (by decide)) (by kernel_rfl) (fun s => ?_)
  refine Good.run (by kernel_rfl) (stop := 1000) 1000 _ ?_
  refine Good.callv (fun w1 hw h => apply_v (X := 3) (Y := -3) ex1.1 ex1.2 (h.2.q.mono (show 2 ≤ 8 by decide)) (by decide)) (by kernel_rfl) (fun u => ?_)
  refine Good.run (by kernel_rfl) (stop := 1000) 1000 _ ?_
  refine Good.callv (fun w1 hw h => qt_m (n := 1)) (by kernel_rfl) (fun k => ?_)
  refine Good.run (by kernel_rfl) (stop := 1000) 1000 _ ?_
  refine Good.callv (fun w1 hw h => apply_v (X := 3) (Y := 5) ex2.1 ex2.2 (h.2.q.mono (show 2 ≤ 8 by decide)) (by decide)) (by kernel_rfl) (fun u => ?_)
  refine Good.run (by kernel_rfl) (stop := 2) 1000 _ ?_
  refine Good.run (by kernel_rfl) (stop := 1000) 100 _ ?_
  refine Good.ret (v := .bool true) (by kernel_rfl) (fun w1 hw h => ⟨(), rfl, hw, fun _ _ _ => trivial⟩)
end

section
variable {w : World} {t u : TV} {T U : Aff} {K K1 K2 : Nat} {r s : RV} {p q : Rat} {X Y : Int}
theorem fields_e (h1 : IsAN t T K1 w) (h2 : IsAN u T K2 w) : Calls Tryz.prog 13 #[t.val, u.val] w (CallPost w (fun _ : Unit => .bool true) fun _ _ => True) := fieldsN_m eqA_rfl h1 h2
theorem row_three {w : World} {g : Nat} {ty : TypeId} {t u v : TV} {T U V : Aff} {K : Nat} (h : litG ty ([t, u, v].flatMap TV.cl).toArray g w) (h1 : IsA t T K w) (h2 : IsA u U K w) (h3 : IsA v V K w) : RowT w (some ⟨g, 0, none⟩) 3 [t, u, v] [T, U, V] K := by
  refine rowT_box ⟨_, h⟩ rfl rfl ?_
  intro k s S hk hS
  match k, hk, hS with
  | 0, hk, hS => obtain rfl : t = s := by simpa using hk
                 obtain rfl : T = S := by simpa using hS
                 exact h1
  | 1, hk, hS => obtain rfl : u = s := by simpa using hk
                 obtain rfl : U = S := by simpa using hS
                 exact h2
  | 2, hk, hS => obtain rfl : v = s := by simpa using hk
                 obtain rfl : V = S := by simpa using hS
                 exact h3
theorem ne_f {e : Int} (h : (e != 0) = false) : e = 0 := by simpa using h
theorem tmod_bd {k : Int} {d : Int} (hd : 0 < d) : -d < k.tmod d ∧ k.tmod d < d := by
  have h1 := Int.tmod_lt_of_pos k hd
  have h2 := Int.tmod_lt_of_pos (-k) hd
  rw [Int.neg_tmod] at h2
  omega
def movT (A B : Int) : Aff := { affId with e := (A : Rat), f := (B : Rat) }
theorem mov_at {A B : Int} : atX (T.comp (movT A B)) X Y = atX T X Y + A ∧ atY (T.comp (movT A B)) X Y = atY T X Y + B := by
  have h := app_comp T (movT A B) (X : Rat) (Y : Rat)
  have e1 : ∀ x y : Rat, (movT A B).app x y = (x + A, y + B) := fun x y => by
    simp only [movT, affId, affI, Aff.app, q0, q1, Prod.mk.injEq]
    constructor <;> grind
  rw [e1] at h
  unfold atX atY
  rw [h]
  constructor
  · rw [← Rat.floor_add_intCast]; congr 1; grind
  · rw [← Rat.floor_add_intCast]; congr 1; grind
theorem at_ok (h : atE T X Y = 0) : atP T X Y = pt (atX T X Y) (atY T X Y) ∧ validP (atX T X Y) (atY T X Y) = true := by
  refine ⟨by unfold atP; rw [if_pos h], ?_⟩
  have hok : atOk T X Y = true := by
    unfold atE at h
    split at h
    · cases h
    · split at h
      · cases h
      · split at h
        · cases h
        · rename_i h3; simpa using h3
  unfold atOk at hok
  simp only [Bool.and_eq_true] at hok
  rw [toV_fit hok.1, toV_fit hok.2.1] at hok
  exact hok.2.2
end

theorem qm1 : ((-1 : Int) : Rat) = -1 := rfl
theorem comp_inv {T : Aff} (h : T.det ≠ 0) : T.comp T.inv = affId := by
  have hi := Rat.mul_inv_cancel _ h
  unfold Aff.inv
  simp only [Rat.div_def]
  generalize T.det⁻¹ = i at hi ⊢
  unfold Aff.det at hi
  refine aff_ext ?_ ?_ ?_ ?_ ?_ ?_ <;> simp only [Aff.comp, Aff.app, affId, affI, q0, q1] <;> grind
theorem inv_comp {T : Aff} (h : T.det ≠ 0) : T.inv.comp T = affId := by
  have hi := Rat.mul_inv_cancel _ h
  unfold Aff.inv
  simp only [Rat.div_def]
  generalize T.det⁻¹ = i at hi ⊢
  unfold Aff.det at hi
  refine aff_ext ?_ ?_ ?_ ?_ ?_ ?_ <;> simp only [Aff.comp, Aff.app, affId, affI, q0, q1] <;> grind
theorem parts_comp {T : Aff} (h : T.det ≠ 0) : compF (partsA T) = T := by
  unfold partsA
  split
  · rename_i h0
    have hc : T.c ≠ 0 := fun e => h (by unfold Aff.det; rw [h0, e]; grind)
    have hi := Rat.mul_inv_cancel _ hc
    simp only [Rat.div_def]
    generalize T.c⁻¹ = i at hi ⊢
    refine aff_ext ?_ ?_ ?_ ?_ ?_ ?_ <;> simp only [compF, List.foldl_cons, List.foldl_nil, Aff.comp, Aff.app, affId, affI, q0, q1, qtA, if_true, qm1] <;> grind
  · rename_i h0
    have hi := Rat.mul_inv_cancel _ h0
    simp only [Rat.div_def, Aff.det]
    generalize T.a⁻¹ = i at hi ⊢
    refine aff_ext ?_ ?_ ?_ ?_ ?_ ?_ <;> simp only [compF, List.foldl_cons, List.foldl_nil, Aff.comp, Aff.app, affId, affI, q0, q1] <;> grind

/-- Of at most k bits. -/
def Bk (k : Nat) (x : Int) : Prop := x.natAbs ≤ 2 ^ k
theorem Bk.mul {k l : Nat} {x y : Int} (h1 : Bk k x) (h2 : Bk l y) : Bk (k + l) (x * y) := by
  unfold Bk at *
  rw [Int.natAbs_mul, Nat.pow_add]
  exact Nat.mul_le_mul h1 h2
theorem Bk.add {k : Nat} {x y : Int} (h1 : Bk k x) (h2 : Bk k y) : Bk (k + 1) (x + y) := by
  unfold Bk at *
  have := Int.natAbs_add_le x y
  rw [Nat.pow_succ]
  omega
theorem Bk.neg {k : Nat} {x : Int} (h1 : Bk k x) : Bk k (-x) := by unfold Bk at *; rwa [Int.natAbs_neg]
theorem Bk.mono {k l : Nat} {x : Int} (h : Bk k x) (hk : k ≤ l) : Bk l x := Nat.le_trans h (Nat.pow_le_pow_right (by decide) hk)
/-- A fraction over D with a numerator of at most k bits. -/
def Fq (D : Int) (k : Nat) (q : Rat) : Prop := ∃ n : Int, Bk k n ∧ q = (n : Rat) * (D : Rat)⁻¹
theorem Fq.of {D n : Int} {k : Nat} (h : Bk k n) : Fq D k ((n : Rat) / (D : Rat)) := ⟨n, h, Rat.div_def _ _⟩
theorem Fq.mul {D u : Int} {k l : Nat} {q : Rat} (h : Fq D k q) (hu : Bk l u) : Fq D (l + k) ((u : Rat) * q) := by
  obtain ⟨n, hn, rfl⟩ := h
  exact ⟨u * n, hu.mul hn, by rw [Rat.intCast_mul, Rat.mul_assoc]⟩
theorem Fq.mul' {D u : Int} {k l : Nat} {q : Rat} (h : Fq D k q) (hu : Bk l u) : Fq D (l + k) (q * (u : Rat)) := by rw [Rat.mul_comm]; exact h.mul hu
theorem Fq.add {D : Int} {k : Nat} {p q : Rat} (h1 : Fq D k p) (h2 : Fq D k q) : Fq D (k + 1) (p + q) := by
  obtain ⟨n, hn, rfl⟩ := h1
  obtain ⟨m, hm, rfl⟩ := h2
  exact ⟨n + m, hn.add hm, by rw [Rat.intCast_add, Rat.add_mul]⟩
theorem Fq.neg {D : Int} {k : Nat} {p : Rat} (h1 : Fq D k p) : Fq D k (-p) := by
  obtain ⟨n, hn, rfl⟩ := h1
  exact ⟨-n, hn.neg, by rw [Rat.intCast_neg, Rat.neg_mul]⟩
theorem Fq.mono {D : Int} {k l : Nat} {p : Rat} (h1 : Fq D k p) (hk : k ≤ l) : Fq D l p := by
  obtain ⟨n, hn, rfl⟩ := h1
  exact ⟨n, hn.mono hk, rfl⟩
theorem Fq.int {D m : Int} {k d : Nat} (h0 : D ≠ 0) (hm : Bk k m) (hD : Bk d D) : Fq D (k + d) (m : Rat) := by
  refine ⟨m * D, hm.mul hD, ?_⟩
  have h : (D : Rat) ≠ 0 := by exact_mod_cast h0
  rw [Rat.intCast_mul, Rat.mul_assoc, Rat.mul_inv_cancel _ h, Rat.mul_one]

theorem bits_256 {D : Int} {k : Nat} {q : Rat} (h : Fq D k q) (hk : k ≤ 255) (h0 : D ≠ 0) (hD : Bk 255 D) : bitsQ q ≤ 256 := by
  obtain ⟨n, hn, rfl⟩ := h
  have hlt : ∀ {x : Int}, Bk 255 x → x.natAbs < pw 8 := fun hx => by
    unfold Bk at hx
    rw [pw_two]
    exact Nat.lt_of_le_of_lt hx (Nat.pow_lt_pow_right (by decide) (by decide))
  have hb := divInt_bd (hlt (hn.mono hk)) (hlt hD) h0
  have e : (n : Rat) * (D : Rat)⁻¹ = Rat.divInt n D := by rw [Rat.divInt_eq_div, Rat.div_def]
  rw [e]
  unfold bitsQ
  rw [pw_two] at hb
  have h1 := bitsN_lt (k := 256) (v := (Rat.divInt n D).num.natAbs) hb.1
  have h2 := bitsN_lt (k := 256) (v := (Rat.divInt n D).den) (by simpa using hb.2)
  omega
structure FqA (D : Int) (k : Nat) (T : Aff) : Prop where
  a : Fq D k T.a
  b : Fq D k T.b
  c : Fq D k T.c
  d : Fq D k T.d
  e : Fq D k T.e
  f : Fq D k T.f
theorem FqA.ok {D : Int} {k : Nat} {T : Aff} (h : FqA D k T) (hk : k ≤ 255) (h0 : D ≠ 0) (hD : Bk 255 D) : T.ok = true := by
  have ha := bits_256 h.a hk h0 hD
  have hb := bits_256 h.b hk h0 hD
  have hc := bits_256 h.c hk h0 hD
  have hd := bits_256 h.d hk h0 hD
  have he := bits_256 h.e hk h0 hD
  have hf := bits_256 h.f hk h0 hD
  unfold Aff.ok bitsA
  simp only [List.all_cons, List.all_nil, Bool.and_true, Bool.and_eq_true, decide_eq_true_eq]
  exact ⟨ha, hb, hc, hd, he, hf⟩
def detI (p : Tri) : Int := (p.x1 - p.x0) * (p.y2 - p.y0) - (p.y1 - p.y0) * (p.x2 - p.x0)
theorem det_frame (p : Tri) : (frameT p).det = (detI p : Rat) := by
  show ((p.x1 - p.x0 : Int) : Rat) * ((p.y2 - p.y0 : Int) : Rat) - ((p.y1 - p.y0 : Int) : Rat) * ((p.x2 - p.x0 : Int) : Rat) = _
  rw [← Rat.intCast_mul, ← Rat.intCast_mul, ← Rat.intCast_sub]
  rfl
theorem bk22 {x : Int} (h : -2097152 ≤ x ∧ x ≤ 2097152) : Bk 22 x := by unfold Bk; omega
structure BdT (p : Tri) : Prop where
  a : Bk 22 (p.x1 - p.x0)
  b : Bk 22 (p.y1 - p.y0)
  c : Bk 22 (p.x2 - p.x0)
  d : Bk 22 (p.y2 - p.y0)
  e : Bk 22 p.x0
  f : Bk 22 p.y0
theorem bdT {p : Tri} (h : p.ok = true) : BdT p := by
  have hb := Tri.bd h
  exact ⟨bk22 (by omega), bk22 (by omega), bk22 (by omega), bk22 (by omega), bk22 (by omega), bk22 (by omega)⟩
theorem bkD {p : Tri} (h : p.ok = true) : Bk 46 (detI p) := by
  have b := bdT h
  unfold detI
  rw [Int.sub_eq_add_neg]
  exact ((b.a.mul b.d).add (b.b.mul b.c).neg).mono (by decide)
theorem inv_fr {p : Tri} (h : p.ok = true) : FqA (detI p) 48 (frameT p).inv := by
  have b := bdT h
  have ha : Fq (detI p) 22 ((frameT p).d / (frameT p).det) := by rw [det_frame]; exact Fq.of b.d
  have hd : Fq (detI p) 22 ((frameT p).a / (frameT p).det) := by rw [det_frame]; exact Fq.of b.a
  have hb : Fq (detI p) 22 (-(frameT p).b / (frameT p).det) := by
    rw [det_frame]
    have := Fq.of (D := detI p) b.b.neg
    rwa [Rat.intCast_neg] at this
  have hc : Fq (detI p) 22 (-(frameT p).c / (frameT p).det) := by
    rw [det_frame]
    have := Fq.of (D := detI p) b.c.neg
    rwa [Rat.intCast_neg] at this
  refine ⟨ha.mono (by decide), hb.mono (by decide), hc.mono (by decide), hd.mono (by decide), ?_, ?_⟩
  · have : Fq (detI p) 45 ((frameT p).d / (frameT p).det * (frameT p).e + -(frameT p).c / (frameT p).det * (frameT p).f) := ((ha.mul' b.e).add (hc.mul' b.f))
    have h2 := this.neg.mono (show 45 ≤ 48 by decide)
    show Fq (detI p) 48 (-((frameT p).d / (frameT p).det * (frameT p).e + -(frameT p).c / (frameT p).det * (frameT p).f + ((0 : Int) : Rat)))
    rwa [q0, Rat.add_zero]
  · have : Fq (detI p) 45 (-(frameT p).b / (frameT p).det * (frameT p).e + (frameT p).a / (frameT p).det * (frameT p).f) := ((hb.mul' b.e).add (hd.mul' b.f))
    have h2 := this.neg.mono (show 45 ≤ 48 by decide)
    show Fq (detI p) 48 (-(-(frameT p).b / (frameT p).det * (frameT p).e + (frameT p).a / (frameT p).det * (frameT p).f + ((0 : Int) : Rat)))
    rwa [q0, Rat.add_zero]
theorem comp_fr {p q : Tri} (h : p.ok = true) (hq : q.ok = true) (h0 : detI p ≠ 0) : FqA (detI p) 80 ((frameT p).inv.comp (frameT q)) := by
  have i := inv_fr h
  have b := bdT hq
  have hD := bkD h
  refine ⟨((i.a.mul b.a).add (i.b.mul b.c)).mono (by decide), ((i.a.mul b.b).add (i.b.mul b.d)).mono (by decide), ((i.c.mul b.a).add (i.d.mul b.c)).mono (by decide), ((i.c.mul b.b).add (i.d.mul b.d)).mono (by decide), ?_, ?_⟩
  · exact (((i.e.mul b.a).add (i.f.mul b.c)).add ((Fq.int h0 b.e hD).mono (show 22 + 46 ≤ 71 by decide))).mono (by decide)
  · exact (((i.e.mul b.b).add (i.f.mul b.d)).add ((Fq.int h0 b.f hD).mono (show 22 + 46 ≤ 71 by decide))).mono (by decide)
theorem frame_fr {p : Tri} (h : p.ok = true) : FqA 1 23 (frameT p) := by
  have b := bdT h
  have h1 : Bk 1 1 := by unfold Bk; decide
  exact ⟨Fq.int (by decide) b.a h1, Fq.int (by decide) b.b h1, Fq.int (by decide) b.c h1, Fq.int (by decide) b.d h1, Fq.int (by decide) b.e h1, Fq.int (by decide) b.f h1⟩
theorem frame_ok {p : Tri} (h : p.ok = true) : (frameT p).ok = true := (frame_fr h).ok (by decide) (by decide) (by unfold Bk; decide)
theorem inv_ok {p : Tri} (h : p.ok = true) (h0 : detI p ≠ 0) : (frameT p).inv.ok = true := (inv_fr h).ok (by decide) h0 ((bkD h).mono (by decide))
theorem comp_ok {p q : Tri} (h : p.ok = true) (hq : q.ok = true) (h0 : detI p ≠ 0) : ((frameT p).inv.comp (frameT q)).ok = true := (comp_fr h hq h0).ok (by decide) h0 ((bkD h).mono (by decide))
/-- The error of a transform between triangles, as the chapter says it. -/
theorem triE_eq (a b : Tri) : triE a b = if (a.ok && b.ok) = false then 6 else if detI a = 0 then 9 else 0 := by
  unfold triE
  by_cases h : (a.ok && b.ok) = false
  · rw [if_pos h, if_pos h]
  · rw [if_neg h, if_neg h]
    simp only [Bool.and_eq_false_iff, not_or, Bool.not_eq_false] at h
    have hdet : ((frameT a).det = 0) ↔ detI a = 0 := by rw [det_frame]; exact_mod_cast Iff.rfl
    by_cases h0 : detI a = 0
    · rw [if_pos h0]
      have : invE (frameT a) = 9 := by unfold invE; rw [if_neg (by rw [frame_ok h.1]; simp), if_pos (hdet.2 h0)]
      rw [this]; rfl
    · rw [if_neg h0]
      have : invE (frameT a) = 0 := by unfold invE; rw [if_neg (by rw [frame_ok h.1]; simp), if_neg (fun e => h0 (hdet.1 e)), if_neg (by rw [inv_ok h.1 h0]; simp)]
      rw [if_neg (by simp [this])]
      exact compE2.2 ⟨inv_ok h.1 h0, frame_ok h.2, comp_ok h.1 h.2 h0⟩
theorem triE_zero {a b : Tri} (h : triE a b = 0) : a.ok = true ∧ b.ok = true ∧ detI a ≠ 0 := by
  rw [triE_eq] at h
  split at h
  · cases h
  · rename_i h1
    split at h
    · cases h
    · rename_i h2
      simp only [Bool.and_eq_false_iff, not_or, Bool.not_eq_false] at h1
      exact ⟨h1.1, h1.2, h2⟩
theorem triE_of {a b : Tri} (ha : a.ok = true) (hb : b.ok = true) (h0 : detI a ≠ 0) : triE a b = 0 := by
  rw [triE_eq, if_neg (by rw [ha, hb]; simp), if_neg h0]
theorem triF_eq (a b : Tri) : triF a b = (frameT a).inv.comp (frameT b) := compF2
theorem tri_comp {a b c : Tri} (h1 : triE a b = 0) (h2 : triE b c = 0) : triE a c = 0 ∧ compE [triF a b, triF b c] = 0 ∧ compF [triF a b, triF b c] = triF a c := by
  obtain ⟨ha, hb, d1⟩ := triE_zero h1
  obtain ⟨_, hc, d2⟩ := triE_zero h2
  have hd : (frameT b).det ≠ 0 := by rw [det_frame]; exact_mod_cast d2
  have e : (triF a b).comp (triF b c) = triF a c := by
    rw [triF_eq, triF_eq, triF_eq, comp_assoc, ← comp_assoc (frameT b), comp_inv hd, id_comp]
  refine ⟨triE_of ha hc d1, compE2.2 ⟨?_, ?_, ?_⟩, by rw [compF2, e]⟩
  · rw [triF_eq]; exact comp_ok ha hb d1
  · rw [triF_eq]; exact comp_ok hb hc d2
  · rw [e, triF_eq]; exact comp_ok ha hc d1
section
variable {w : World} {t u : TV} {T U : Aff} {K K1 K2 : Nat} {r s : RV} {p q : Rat} {X Y : Int} {a b c : Tri}
theorem fromTri_v {e : Int} (he : triE a b = e) : Calls Tryz.prog 28 #[a.val, b.val] w (CallPost w (fun r : TV => .tuple #[r.val, .int .i64 e]) fun r u => OutA r e (triF a b) 8 u) := by subst he; exact fromTri_m
theorem decompose_z (hE : decE T = 0) (ht : IsA t T K w) (hK : 2 ≤ K ∧ K ≤ 10000) : Calls Tryz.prog 22 #[t.val] w (CallPost w (fun q : Nat × (TV × TV × TV × TV × TV) => .tuple #[litV 5 q.1, .int .i64 0]) fun q u => FiveN q (partsA T) (8 * K + 2) u) := by
  refine (decompose_m ht hK).mono fun e w' h => ?_
  obtain ⟨q, h1, h2, h3⟩ := h
  exact ⟨q, by rw [h1]; unfold decV; rw [hE]; rfl, h2, fun w'' k1 k2 => h3 w'' k1 k2 hE⟩
theorem decompose_e (hE : decE T ≠ 0) (ht : IsA t T K w) (hK : 2 ≤ K ∧ K ≤ 10000) : Calls Tryz.prog 22 #[t.val] w (CallPost w (fun _ : Unit => .tuple #[.slice none 0 0, .int .i64 (decE T)]) fun _ _ => True) := by
  refine (decompose_m ht hK).mono fun e w' h => ?_
  obtain ⟨q, h1, h2, h3⟩ := h
  exact ⟨(), by rw [h1]; show Ending.returned (Value.tuple #[decV T q.1, .int .i64 (decE T)]) = _; unfold decV; rw [if_neg hE], h2, fun w'' k1 k2 => trivial⟩
theorem FiveN.row {q : Nat × (TV × TV × TV × TV × TV)} (h : FiveN q (partsA T) K w) : RowT w (some ⟨q.1, 0, none⟩) 5 [q.2.1, q.2.2.1, q.2.2.2.1, q.2.2.2.2.1, q.2.2.2.2.2] (partsA T) K := by
  obtain ⟨T0, hT0, n0⟩ := h.n0
  obtain ⟨T1, hT1, n1⟩ := h.n1
  obtain ⟨T2, hT2, n2⟩ := h.n2
  obtain ⟨T3, hT3, n3⟩ := h.n3
  obtain ⟨T4, hT4, n4⟩ := h.n4
  have hl := partsA_len (T := T)
  have e : partsA T = [T0, T1, T2, T3, T4] := by
    match hm : partsA T, hl with
    | [a, b, c, d, e], _ =>
      rw [hm] at hT0 hT1 hT2 hT3 hT4
      simp only [List.getElem?_cons_zero, List.getElem?_cons_succ, Option.some.injEq] at hT0 hT1 hT2 hT3 hT4
      rw [hT0, hT1, hT2, hT3, hT4]
  rw [e]
  exact rowT_box h.box rfl rfl (five_q n0.q n1.q n2.q n3.q n4.q)
theorem decE_det (h : decE T = 0) : T.det ≠ 0 := by
  unfold decE at h
  split at h
  · cases h
  · split at h
    · cases h
    · rename_i h2; exact h2
end

section
variable {w : World} {x0 x1 x2 : List Value}
abbrev Done (w : World) (e : Ending) (w' : World) : Prop := e = .returned (.bool true) ∧ Below w.heap.size w w'
def shSpot : Sh := .cons 4 shRat (.cons 4 shRat (.cons 2 shPt .nil))
def shTri : Sh := .cons 2 shPt (.cons 2 shPt (.cons 2 shPt .nil))
theorem rd_tri {cs : List Value} (h : Rd w shTri cs) : ∃ p : Tri, cs.toArray = #[.int .i64 p.x0, .int .i64 p.y0, .int .i64 p.x1, .int .i64 p.y1, .int .i64 p.x2, .int .i64 p.y2] := by
  obtain ⟨_, _, rfl, _, h1, h⟩ := rd_cons h
  obtain ⟨_, _, rfl, _, h2, h⟩ := rd_cons h
  obtain ⟨_, _, rfl, _, h3, h⟩ := rd_cons h
  obtain rfl := h
  obtain ⟨a, b, rfl, _⟩ := rd_pt h1
  obtain ⟨c, d, rfl, _⟩ := rd_pt h2
  obtain ⟨e, f, rfl, _⟩ := rd_pt h3
  exact ⟨⟨a, b, c, d, e, f⟩, rfl⟩
theorem rd_spot {cs : List Value} (h : Rd w shSpot cs) : ∃ (r s : RV) (X Y : Int), cs = r.cl ++ (s.cl ++ [Value.int .i64 X, Value.int .i64 Y]) ∧ InR r w ∧ InR s w := by
  obtain ⟨_, _, rfl, _, h1, h⟩ := rd_cons h
  obtain ⟨_, _, rfl, _, h2, h⟩ := rd_cons h
  obtain ⟨_, _, rfl, _, h3, h⟩ := rd_cons h
  obtain rfl := h
  obtain ⟨r, rfl, i1⟩ := rd_rat' h1
  obtain ⟨s, rfl, i2⟩ := rd_rat' h2
  obtain ⟨X, Y, rfl, _⟩ := rd_pt h3
  exact ⟨r, s, X, Y, by simp, i1, i2⟩
end

end Go.Proofs.YtfmcpplkmldhiaaGreat
