/-
 Whole numbers as text and as ints, by the machine.
-/
import Derived.Test.YtdeepdckmhpldaaGreatDoorAO
import Derived.Test.YtdeepdckmhpldaaGreatDoorARf
import Derived.Test.YtdeepdckmhpldaaGreatDoorARg
import Derived.Test.YtdeepdckmhpldaaGreatDoorASh
import Derived.Lib.IndexBytes
import Derived.IntWalk
namespace Go.Proofs.YtdeepdckmhpldaaGreatDoor
set_option maxRecDepth 100000
set_option maxHeartbeats 8000000
set_option linter.unusedVariables false
set_option linter.unusedSimpArgs false
open Go.RowKit
section
variable {P : Program} {w : World} {l m : List UInt8} {t : TypeId}
def S3 (op : BinOp) (t : TypeId) (x y : Operand) (u v : Value) : Sem Next := (do eqGuard op t x y u v; binOp op t u v) >>= fun v => pure (.value v)
def ixS (t : TypeId) (s : Value) (i : Int) : Sem Next := Instr.index t s (.int .i64 i) >>= fun v => pure (.value v)
def toS (t : TypeId) (s : Value) (i : Int) : Sem Next := Instr.slice t s none (some (.int .i64 i)) none >>= fun v => pure (.value v)
def fromS (t : TypeId) (s : Value) (i : Int) : Sem Next := Instr.slice t s (some (.int .i64 i)) none none >>= fun v => pure (.value v)
theorem Ld {x y : Operand} (h : l.length + m.length ≤ 9223372036854775807) : (S3 .add t x y (K3 l) (K3 m)).run P w = .ok (.value (K3 (l ++ m))) w := by
 have := run_string_add_sum (P := P) w ⟨l.toArray⟩ ⟨m.toArray⟩ (by simpa [ByteArray.size] using h)
 simp only [S3, K3, eqGuard_add, Sem.run_bind, Sem.run_pure, Result.andThen_ok, binOp_string_add, this]
 rw [ByteArray.mk_append_mk]
theorem Oc {i : Nat} {b : UInt8} (ht : P.underlying t = some .string) (h : l[i]? = some b) : (ixS t (K3 l) i).run P w = .ok (.value (.int .u8 b.toNat)) w := by
 obtain ⟨h1, h2⟩ := List.getElem?_eq_some_iff.1 h
 have hs : (0 : Int) ≤ (i : Int) ∧ (i : Int) < ((⟨l.toArray⟩ : ByteArray).size : Nat) := ⟨by omega, by show (i : Int) < ((l.length : Nat) : Int); omega⟩
 simp only [ixS, K3, Sem.run_bind, run_index_string w t ⟨l.toArray⟩ .i64 i ht, dif_pos hs, Result.andThen_ok, Sem.run_pure]
 have : (⟨l.toArray⟩ : ByteArray)[(i : Int).toNat]'Zo = b := h2
 rw [this]
theorem run_toP {i : Nat} (ht : P.underlying t = some .string) (h : i ≤ l.length) : (toS t (K3 l) i).run P w = .ok (.value (K3 (l.take i))) w := by
 have := run_slice_string_h (P := P) w t ⟨l.toArray⟩ ht .i64 i Zo (by show (i : Int) ≤ ((l.length : Nat) : Int); omega)
 simp only [toS, K3, Sem.run_bind, this, Result.andThen_ok, Sem.run_pure, Int.toNat_natCast]
 have e : (⟨l.toArray⟩ : ByteArray).extract 0 i = ⟨(l.take i).toArray⟩ := by
  apply ByteArray.ext
  simp [ByteArray.data_extract]
 rw [e]
theorem run_fromP {i : Nat} (ht : P.underlying t = some .string) (h : i ≤ l.length) : (fromS t (K3 l) i).run P w = .ok (.value (K3 (l.drop i))) w := by
 have := run_slice_string_l (P := P) w t ⟨l.toArray⟩ ht .i64 i Zo (by show (i : Int) ≤ ((l.length : Nat) : Int); omega)
 simp only [fromS, K3, Sem.run_bind, this, Result.andThen_ok, Sem.run_pure, Int.toNat_natCast]
 have e : (⟨l.toArray⟩ : ByteArray).extract i (⟨l.toArray⟩ : ByteArray).size = ⟨(l.drop i).toArray⟩ := by
  apply ByteArray.ext
  simp [ByteArray.data_extract, ByteArray.size, List.take_of_length_le]
 rw [e]
theorem sliceAtS {P : Program} {t : TypeId} {s : Value} {lo hi mx : Option Value} (ht : P.underlying t = some .string) : (Instr.sliceAt t s lo hi mx).run P w = (Instr.slice t s lo hi mx).run P w := run_sliceAt_string w t s lo hi mx ht
def fromA (t : TypeId) (s : Value) (i : Int) : Sem Next := Instr.sliceAt t s (some (.int .i64 i)) none none >>= fun v => pure (.value v)
theorem run_fromA {P : Program} {t : TypeId} {i : Nat} (ht : P.underlying t = some .string) (h : i ≤ l.length) : (fromA t (K3 l) i).run P w = .ok (.value (K3 (l.drop i))) w := by
 have := run_fromP (w := w) ht h
 simp only [fromA, fromS, Sem.run_bind, sliceAtS ht] at this ⊢
 exact this
end
def K6 (x : Int) : List UInt8 := if x < 0 then 45 :: Nr x.natAbs else Nr x.natAbs
theorem fmtI_neg {x : Int} (h : x < 0) : K6 x = 45 :: Nr x.natAbs := if_pos h
theorem fmtI_pos {x : Int} (h : ¬ x < 0) : K6 x = Nr x.natAbs := if_neg h
theorem sgn_neg {x : Int} (h : x < 0) : Q0 x = -1 := if_pos h
theorem sgn_pos {x : Int} (h : ¬ x < 0) : ¬ Q0 x < 0 := by unfold Q0; rw [if_neg h]; split <;> omega
def Ua (l : List UInt8) : Bool := Lib.hasPrefix l [45]
def Mm (l : List UInt8) : List UInt8 := Lib.trimPrefix l [45]
def Mc (l : List UInt8) : Int := if Lk (Mm l) = 0 then (if Ua l = true ∧ Nh (Mm l) = 0 then 3 else 0) else Lk (Mm l)
def Mw (l : List UInt8) : Int := if Mc l = 0 then zi (Ua l) (Nh (Mm l)) else 0
theorem parseI_bad {l : List UInt8} (h : Lk (Mm l) ≠ 0) : Mc l = Lk (Mm l) ∧ Mw l = 0 := by
 have h1 : Mc l = Lk (Mm l) := if_neg h
 exact ⟨h1, by rw [Mw, if_neg (by rw [h1]; exact h)]⟩
theorem parseI_zero {l : List UInt8} (h : Lk (Mm l) = 0) (h2 : Ua l = true) (h3 : Nh (Mm l) = 0) : Mc l = 3 ∧ Mw l = 0 := by
 have h1 : Mc l = 3 := by rw [Mc, if_pos h, if_pos ⟨h2, h3⟩]
 exact ⟨h1, by rw [Mw, if_neg (by rw [h1]; omega)]⟩
theorem Sd {l : List UInt8} (h : Lk (Mm l) = 0) (h2 : ¬ (Ua l = true ∧ Nh (Mm l) = 0)) : Mc l = 0 ∧ Mw l = zi (Ua l) (Nh (Mm l)) := by
 have h1 : Mc l = 0 := by rw [Mc, if_pos h, if_neg h2]
 exact ⟨h1, by rw [Mw, if_pos h1]⟩
theorem parseV_lt (l : List UInt8) : Nh l < pw 125 := by
 by_cases h : Lk l = 0
 ·obtain ⟨_, h2, h3, _⟩ := decS_parse h
  rw [Nh, if_pos h]
  exact rdv_pw h2 Zo
 ·rw [Nh, if_neg h]; exact U8 _
theorem pneg_nil : Ua [] = false ∧ Mm [] = [] := ⟨rfl, rfl⟩
theorem Qf (t : List UInt8) : Ua (45 :: t) = true ∧ Mm (45 :: t) = t := by
 have h : Ua (45 :: t) = true := by simp [Ua, Lib.hasPrefix, List.isPrefixOf]
 exact ⟨h, by rw [Mm, Lib.trimPrefix, if_pos (show Lib.hasPrefix (45 :: t) [45] = true from h)]; rfl⟩
theorem pneg_cons_no {b : UInt8} {t : List UInt8} (hb : b ≠ 45) : Ua (b :: t) = false ∧ Mm (b :: t) = b :: t := by
 have h : Ua (b :: t) = false := by simp [Ua, Lib.hasPrefix, List.isPrefixOf]; exact fun e => hb e.symm
 exact ⟨h, by rw [Mm, Lib.trimPrefix, if_neg (by rw [show Lib.hasPrefix (b :: t) [45] = Ua (b :: t) from rfl, h]; decide)]⟩
def fitB (x : Int) : Bool := decide (-9223372036854775808 ≤ x ∧ x ≤ 9223372036854775807)
def toV (x : Int) : Int := if fitB x then x else 0
theorem Xz {x : Int} (h1 : -9223372036854775808 ≤ x) (h2 : x ≤ 9223372036854775807) : fitB x = true ∧ toV x = x := by
 have h : fitB x = true := decide_eq_true ⟨h1, h2⟩
 exact ⟨h, by rw [toV, h]; rfl⟩
theorem fit_false {x : Int} (h : ¬ (-9223372036854775808 ≤ x ∧ x ≤ 9223372036854775807)) : fitB x = false ∧ toV x = 0 := by
 have h : fitB x = false := decide_eq_false h
 exact ⟨h, by rw [toV, h]; rfl⟩
theorem or_zero1 {y : Nat} (hy : y < 4294967296) : bits .or .u64 0 (y : Int) = (y : Int) := by
 rw [show (0 : Int) = ((0 : Nat) : Int) from rfl, u64_or_nat _ _ Zo Zo, Nat.zero_or]
theorem in_cell {w : World} {ad : Addr} {n c k : Nat} {l : List Nat} (h : In w (some ad) n c l) (hk : k < n) : w.cell? (ad.add k) = some (.int .u32 (dg l k : Int)) := by
 obtain ⟨ad2, h1, h2⟩ := h.at_ hk
 cases h1; exact h2
theorem u64_nat {k : Nat} (h : k < 18446744073709551616) : IntKind.u64.wrap (k : Int) = (k : Int) := by rw [Kv]; omega
section
variable {w : World} {a : SV} {x : Int} {K k : Nat} {d : DV} {l : List UInt8}
theorem decS_small (hK : K ≤ 1073741824) (h : k < pw K) : (Nr k).length ≤ 10737418250 := by
 have := decS_len (n := k) (k := K + 1) Zo (Nat.lt_trans h (pw_lt Zo))
 omega
theorem nfmt_m (h : Xb d k K w) (hK : K ≤ 1073741824) : Calls Tryz.prog 67 #[d.val] w (K5 w (fun _ : Unit => K3 (Nr k)) fun _ _ => True) :=
 (format_c w h.1 (Nat.le_trans h.2.2 hK)).mono fun e w' q => ⟨(), by rw [q.1, h.2.1], q.2, fun _ _ _ => trivial⟩
theorem rnfmt_m (h : Xb d k K w) (hK : K ≤ 1073741824) : Calls Tryz.prog 79 #[d.val] w (K5 w (fun _ : Unit => K3 (Nr k)) fun _ _ => True) :=
 (refFormat_c w h.1 (Nat.le_trans h.2.2 hK)).mono fun e w' q => ⟨(), by rw [q.1, h.2.1], q.2, fun _ _ _ => trivial⟩
theorem parseD {E : Int} {e : Ending} {w' : World} (hE : Lk l = E) (q : Q9 w l e w') : K5 w (fun v : DV => .tuple #[v.val, .int .i64 E]) (fun v u => Yd v (Nh l) 125 u) e w' := by
 obtain ⟨A, n, c, dd, he, N, hv, o, hb⟩ := q
 obtain ⟨z, h1, h3, h4⟩ := Ry.postO (K := 125) ⟨A, n, c, dd, rfl, N, hv, o, hb⟩ (parseV_lt l)
 have e2 : Value.slice A n c = z.val := by injection h1
 exact ⟨z, by rw [he, hE, e2], h3, h4⟩
theorem nparse_m {E : Int} (hE : Lk l = E) (h : l.length ≤ 9223372036854775807) : Calls Tryz.prog 258 #[K3 l] w (K5 w (fun v : DV => .tuple #[v.val, .int .i64 E]) fun v u => Yd v (Nh l) 125 u) := (parse_c ⟨l.toArray⟩ h w).mono fun e w' q => parseD hE q
theorem cutp_m {B : Bool} (hB : Ua l = B) : Calls Tryz.prog 257 #[K3 l, .string ⟨#[45]⟩] w (K5 w (fun _ : Unit => .tuple #[K3 (Mm l), .bool B]) fun _ _ => True) :=
 (Tryz.strings_CutPrefix ⟨l.toArray⟩ ⟨#[45]⟩ w).mono fun e w' q => ⟨(), by rw [q.1, ← hB]; rfl, by rw [q.2]; exact Below.refl _ _, fun _ _ _ => trivial⟩
theorem prest_len : (Mm l).length ≤ l.length := by
 cases l with
 | nil => exact Nat.le_refl _
 | cons b t =>
  by_cases hb : b = 45
  ·subst hb; rw [(Qf t).2]; simp
  ·rw [(pneg_cons_no hb).2]; exact Nat.le_refl _
theorem iformat_m (ia : Pd a x K w) (hK : K ≤ 1073741824) : Calls Tryz.prog 31 #[a.val] w (K5 w (fun _ : Unit => K3 (K6 x)) fun _ _ => True) := by
 have hl := decS_small hK ia.lt
 by_cases h0 : x < 0
 ·
  refine K0.enter Tryz.func31 rfl ?_
  refine ZR ?_
  refine ZC (fun w1 hw h => Vn (ia.below hw) Zo) fun s => ?_
  refine ZJ (decide (Q0 x < 0)) true (decide_eq_true (by rw [sgn_neg h0]; decide)) ?_
  refine ZD 3 (fun w1 hw h => nfmt_m (ia.d.below hw) hK) fun f => ?_
  refine ZA (S3 .add 9 (.const (.string ⟨#[45]⟩)) (.tmp 8) (K3 [45]) (K3 (Nr x.natAbs))) (K3 ([45] ++ Nr x.natAbs)) (fun w1 hw h => Ld Zp) ?_
  exact ZX (K3 ([45] ++ Nr x.natAbs)) (by rw [fmtI_neg h0]; rfl)
 ·
  refine K0.enter Tryz.func31 rfl ?_
  refine ZR ?_
  refine ZC (fun w1 hw h => Vn (ia.below hw) Zo) fun s => ?_
  refine ZJ (decide (Q0 x < 0)) false (decide_eq_false (sgn_pos h0)) ?_
  refine ZC (fun w1 hw h => nfmt_m (ia.d.below hw) hK) fun f => ?_
  exact ZX (K3 (Nr x.natAbs)) (by rw [fmtI_pos h0])
theorem rformat_m (ia : Pd a x K w) (hK : K ≤ 1073741824) : Calls Tryz.prog 44 #[a.val] w (K5 w (fun _ : Unit => K3 (K6 x)) fun _ _ => True) := by
 have hl := decS_small hK ia.lt
 by_cases h0 : x < 0
 ·
  refine K0.enter Tryz.func44 rfl ?_
  refine ZR ?_
  refine ZC (fun w1 hw h => rnfmt_m (ia.d.below hw) hK) fun f => ?_
  refine ZC (fun w1 hw h => Q3 (ia.below hw) Zo) fun s => ?_
  refine K0.condr (decide (Q0 x < 0)) true Zk (decide_eq_true (by rw [sgn_neg h0]; decide)) ?_
  refine ZS 1 ?_
  refine ZA (S3 .add 9 (.const (.string ⟨#[45]⟩)) (.tmp 10) (K3 [45]) (K3 (Nr x.natAbs))) (K3 ([45] ++ Nr x.natAbs)) (fun w1 hw h => Ld Zp) ?_
  exact ZX (K3 ([45] ++ Nr x.natAbs)) (by rw [fmtI_neg h0]; rfl)
 ·
  refine K0.enter Tryz.func44 rfl ?_
  refine ZR ?_
  refine ZC (fun w1 hw h => rnfmt_m (ia.d.below hw) hK) fun f => ?_
  refine ZC (fun w1 hw h => Q3 (ia.below hw) Zo) fun s => ?_
  refine ZJ (decide (Q0 x < 0)) false (decide_eq_false (sgn_pos h0)) ?_
  exact ZX (K3 (Nr x.natAbs)) (by rw [fmtI_pos h0])
theorem parse_n {u : World} {v : SV} (h : Sz v (zi (Ua l) (Nh (Mm l))) 125 u) (hE : Lk (Mm l) = 0) (h2 : ¬ (Ua l = true ∧ Nh (Mm l) = 0)) : Sz v (Mw l) 125 u := by rw [(Sd hE h2).2]; exact h
theorem parse_z {u : World} (h : Mw l = 0) : Sz ⟨false, none, 0, 0, []⟩ (Mw l) 125 u := by rw [h]; exact sv_zero
theorem iparse_m (hlen : l.length ≤ 9223372036854775807) : Calls Tryz.prog 210 #[K3 l] w (K5 w (fun v : SV => .tuple #[v.val, .int .i64 (Mc l)]) fun v u => Sz v (Mw l) 125 u) := by
 have hp := prest_len (l := l)
 cases hB : Ua l
 all_goals by_cases hE : Lk (Mm l) = 0
 case neg =>
  have hz := parseI_bad hE
  refine K0.enter Tryz.func210 rfl ?_
  refine ZR ?_
  refine ZC (fun w1 hw h => cutp_m hB) fun c => ?_
  refine ZC (fun w1 hw h => nparse_m (l := Mm l) rfl Zo) fun m => ?_
  refine ZJ ((Lk (Mm l) != 0)) true (bne_iff_ne.2 hE) ?_
  refine ZV (.tuple #[.agg #[.bool false, .slice none 0 0], .int .i64 (Lk (Mm l))]) (fun w1 hw h => ⟨⟨false, none, 0, 0, []⟩, by rw [hz.1], hw, fun w'' k1 k2 => parse_z hz.2⟩)
 case neg =>
  have hz := parseI_bad hE
  refine K0.enter Tryz.func210 rfl ?_
  refine ZR ?_
  refine ZC (fun w1 hw h => cutp_m hB) fun c => ?_
  refine ZC (fun w1 hw h => nparse_m (l := Mm l) rfl Zo) fun m => ?_
  refine ZJ ((Lk (Mm l) != 0)) true (bne_iff_ne.2 hE) ?_
  refine ZV (.tuple #[.agg #[.bool false, .slice none 0 0], .int .i64 (Lk (Mm l))]) (fun w1 hw h => ⟨⟨false, none, 0, 0, []⟩, by rw [hz.1], hw, fun w'' k1 k2 => parse_z hz.2⟩)
 ·have h2 : ¬ (Ua l = true ∧ Nh (Mm l) = 0) := by rw [hB]; simp
  refine K0.enter Tryz.func210 rfl ?_
  refine ZR ?_
  refine ZC (fun w1 hw h => cutp_m hB) fun c => ?_
  refine ZC (fun w1 hw h => nparse_m (l := Mm l) hE Zo) fun m => ?_
  refine ZI false ?_
  refine ZI false ?_
  refine ZC (fun w1 hw h => Th (a := ⟨false, m.A, m.n, m.c, m.l⟩) ((h.2.1.1).sv false) Zd) fun v => ?_
  refine ZV (.tuple #[v.val, .int .i64 0]) (fun w1 hw h => ⟨v, by rw [(Sd hE h2).1], hw, fun w'' k1 k2 => parse_n (by rw [hB]; exact (h w'' k1 k2).2) hE h2⟩)
 ·refine K0.enter Tryz.func210 rfl ?_
  refine ZR ?_
  refine ZC (fun w1 hw h => cutp_m hB) fun c => ?_
  refine ZC (fun w1 hw h => nparse_m (l := Mm l) hE Zo) fun m => ?_
  refine ZI false ?_
  by_cases h0 : Nh (Mm l) = 0
  ·have hz := parseI_zero hE hB h0
   refine K0.pure_ (p := m.n = 0) (fun w1 hw h => by have q := h.2.1.pos; omega) Zk (fun e => ?_)
   refine ZJ (((m.n : Int) == 0)) true (by rw [e]; rfl) ?_
   refine ZV (.tuple #[.agg #[.bool false, .slice none 0 0], .int .i64 3]) (fun w1 hw h => ⟨⟨false, none, 0, 0, []⟩, by rw [hz.1], hw, fun w'' k1 k2 => parse_z hz.2⟩)
  ·have h2 : ¬ (Ua l = true ∧ Nh (Mm l) = 0) := fun q => h0 q.2
   refine K0.pure_ (p := m.n ≠ 0) (fun w1 hw h => by have q := h.2.1.pos; omega) Zk (fun e => ?_)
   refine ZJ (((m.n : Int) == 0)) false (beq_eq_false_iff_ne.2 Zo) ?_
   refine ZC (fun w1 hw h => Th (a := ⟨true, m.A, m.n, m.c, m.l⟩) ((h.2.1.1).sv true) Zd) fun v => ?_
   refine ZV (.tuple #[v.val, .int .i64 0]) (fun w1 hw h => ⟨v, by rw [(Sd hE h2).1], hw, fun w'' k1 k2 => parse_n (by rw [hB]; exact (h w'' k1 k2).2) hE h2⟩)
theorem val1 {l : List Nat} (h : l.length = 1) : val l = dg l 0 := by
 match l, h with
 | [a], _ => simp [val, dg]
theorem val2 {l : List Nat} (h : l.length = 2) : val l = dg l 1 * 4294967296 + dg l 0 := by
 match l, h with
 | [a, b], _ => simp [val, dg]; omega
theorem norm_big {l : List Nat} (h : M4 l) (hl : 2 < l.length) : 18446744073709551616 ≤ val l := by
 have h1 := h.pos (by intro e; rw [e] at hl; simp at hl)
 have h2 := Z9 (show 2 ≤ l.length - 1 by omega)
 rw [Rt] at h2
 omega
theorem neg_conv {k : Nat} (h : k ≤ 9223372036854775808) : IntKind.i64.wrap (IntKind.u64.wrap (0 - (k : Int))) = -(k : Int) := by rw [Kv, IntKind.wrap_i64]; omega
theorem pos_conv {k : Nat} (h : k < 9223372036854775808) : IntKind.i64.wrap (k : Int) = (k : Int) := by rw [IntKind.wrap_i64]; omega
theorem u64_shl {k : Nat} (h : k < 4294967296) : IntKind.u64.wrap ((k : Int) * 2 ^ 32) = (k : Int) * 4294967296 := by rw [Kv]; omega
theorem itoInt_m (ia : Pd a x K w) (hK : K ≤ 274877906944) : Calls Tryz.prog 256 #[a.val] w (K5 w (fun _ : Unit => .tuple #[.int .i64 (toV x), .bool (fitB x)]) fun _ _ => True) := by
 have hx := ia.zi
 rw [← ia.abs] at hx
 have hneg : a.s = true → x = -(x.natAbs : Int) := fun h => by rw [h] at hx; simp [zi] at hx; omega
 have hpos : a.s = false → x = (x.natAbs : Int) := fun h => by rw [h] at hx; simp [zi] at hx; omega
 refine K0.enter Tryz.func256 rfl ?_
 refine ZR ?_
 refine ZC (fun w1 hw h => nnorm_m (ia.d.below hw) hK) fun m => ?_
 obtain ⟨A, n, c, l⟩ := m
 refine K0.pure_ (p := l.length = n ∧ val l = x.natAbs ∧ M4 l) (fun w1 hw h => ⟨h.2.1.1.1.len, h.2.1.1.2.1, h.2.1.2⟩) Zk (fun hp => ?_)
 obtain ⟨hln, hv, hN⟩ := hp
 by_cases h3 : 2 < n
 case pos =>
  have hbig := norm_big hN Zo
  rw [hv] at hbig
  have hf := fit_false (x := x) Zo
  have hmax : n ≤ 274877906944 := by have q := hN.length_le (k := K) (by rw [hv]; exact ia.lt); omega
  refine K0.un Zk ?_
  refine ZS 3 ?_
  refine ZT 15 (.bool (decide (IntKind.i64.wrap ((n : Int) - 1) ≥ 0))) (.bool true) (by rw [IntWalk.i64_in _ Zo, decide_eq_true Zo]) ?_
  refine K0.condr (decide ((n : Int) ≤ 2)) false Zk (decide_eq_false Zo) ?_
  refine ZS 4 ?_
  refine ZT 34 (.bool (decide ((n : Int) > 2))) (.bool true) (by rw [decide_eq_true Zo]) ?_
  refine ZI true ?_
  exact ZX (.tuple #[.int .i64 0, .bool false]) (by rw [hf.1, hf.2])
 have hcell : ∀ {ad : Addr} {u : World} {j : Nat}, Yd ⟨some ad, n, c, l⟩ x.natAbs K u → j < n → u.cell? (ad.add j) = some (.int .u32 (dg l j : Int)) := fun q hj => in_cell q.1.1.1 hj
 obtain rfl | rfl | rfl : n = 0 ∨ n = 1 ∨ n = 2 := by omega
 ·have h0 : x = 0 := by rw [List.length_eq_zero_iff.1 hln] at hv; simp [val] at hv; omega
  refine K0.un Zk ?_
  refine ZR ?_
  refine ZI false ?_
  refine ZI false ?_
  refine K0.both (a.s) Zk (fun hc => ?_) (fun hc => ?_)
  ·
   refine ZR ?_
   exact ZX (.tuple #[.int .i64 0, .bool true]) (by rw [h0]; rfl)
  ·
   refine ZR ?_
   exact ZX (.tuple #[.int .i64 0, .bool true]) (by rw [h0]; rfl)
 ·have hd0 := hN.1 0
  rw [val1 hln] at hv
  refine K0.pure_ (p := ∃ ad, A = some ad) (fun w1 hw h => by obtain ⟨ad, hA, _⟩ := h.2.1.1.1.at_ (k := 0) (by show 0 < 1; decide); exact ⟨ad, hA⟩) Zk (fun hA => ?_)
  obtain ⟨ad, rfl⟩ := hA
  refine K0.un Zk ?_
  refine ZR ?_
  refine ZI true ?_
  refine ZA (Ke 32 (.slice (some ad) 1 c) ((0 : Nat) : Int)) (.pointer (some (ad.add 0))) (fun w1 hw h => Kr (elem := 136) Zk Zk Zd) ?_
  refine K0.ask (L7 136 (ad.add 0)) (.int .u32 (dg l 0 : Int)) Zk (fun w1 hw h => K9 Zk (hcell h.2 Zd)) ?_
  refine ZS 7 ?_
  refine K0.slot 28 (.int .u64 (IntKind.u64.wrap (dg l 0 : Int))) (.int .u64 (dg l 0 : Int)) Zk (by rw [u64_nat Zo]) ?_
  refine ZS 8 ?_
  refine ZT 29 (.int .u64 (bits .or .u64 0 (dg l 0 : Int))) (.int .u64 ((x.natAbs : Nat) : Int)) (by rw [or_zero1 hd0, hv]) ?_
  refine K0.cond false Zk ?_
  refine ZS 7 ?_
  refine K0.slot 37 (.bool (decide (((x.natAbs : Nat) : Int) > 9223372036854775808))) (.bool false) Zk (by rw [decide_eq_false Zo]) ?_
  refine ZS 10 ?_
  refine ZT 40 (.bool (((x.natAbs : Nat) : Int) == 9223372036854775808)) (.bool false) (by rw [beq_eq_false_iff_ne.2 Zo]) ?_
  refine ZI false ?_
  refine K0.both (a.s) Zk (fun hc => ?_) (fun hc => ?_)
  ·
   refine ZR ?_
   exact ZX (.tuple #[.int .i64 (IntKind.i64.wrap (IntKind.u64.wrap (0 - ((x.natAbs : Nat) : Int)))), .bool true]) (by have e := hneg hc; have ft := Xz (x := x) Zo Zo; rw [ft.1, ft.2, neg_conv Zo, ← e])
  ·
   refine ZR ?_
   exact ZX (.tuple #[.int .i64 (IntKind.i64.wrap ((x.natAbs : Nat) : Int)), .bool true]) (by have e := hpos hc; have ft := Xz (x := x) Zo Zo; rw [ft.1, ft.2, pos_conv Zo, ← e])
 ·have hd0 := hN.1 0
  have hd1 := hN.1 1
  rw [val2 hln] at hv
  refine K0.pure_ (p := ∃ ad, A = some ad) (fun w1 hw h => by obtain ⟨ad, hA, _⟩ := h.2.1.1.1.at_ (k := 0) (by show 0 < 2; decide); exact ⟨ad, hA⟩) Zk (fun hA => ?_)
  obtain ⟨ad, rfl⟩ := hA
  refine K0.un Zk ?_
  refine ZR ?_
  refine ZI true ?_
  refine ZA (Ke 32 (.slice (some ad) 2 c) ((1 : Nat) : Int)) (.pointer (some (ad.add 1))) (fun w1 hw h => Kr (elem := 136) Zk Zk Zd) ?_
  refine K0.ask (L7 136 (ad.add 1)) (.int .u32 (dg l 1 : Int)) Zk (fun w1 hw h => K9 Zk (hcell h.2 Zd)) ?_
  refine ZS 7 ?_
  refine K0.slot 28 (.int .u64 (IntKind.u64.wrap (dg l 1 : Int))) (.int .u64 (dg l 1 : Int)) Zk (by rw [u64_nat Zo]) ?_
  refine ZS 8 ?_
  refine ZT 29 (.int .u64 (bits .or .u64 0 (dg l 1 : Int))) (.int .u64 (dg l 1 : Int)) (by rw [or_zero1 hd1]) ?_
  refine ZI true ?_
  refine ZA (Ke 32 (.slice (some ad) 2 c) ((0 : Nat) : Int)) (.pointer (some (ad.add 0))) (fun w1 hw h => Kr (elem := 136) Zk Zk Zd) ?_
  refine K0.ask (L7 136 (ad.add 0)) (.int .u32 (dg l 0 : Int)) Zk (fun w1 hw h => K9 Zk (hcell h.2 Zd)) ?_
  refine ZS 7 ?_
  refine K0.slot 28 (.int .u64 (IntKind.u64.wrap (dg l 0 : Int))) (.int .u64 (dg l 0 : Int)) Zk (by rw [u64_nat Zo]) ?_
  refine K0.slot 23 (.int .u64 (IntKind.u64.wrap ((dg l 1 : Int) * 2 ^ 32))) (.int .u64 ((dg l 1 : Int) * 4294967296)) Zk (by rw [u64_shl hd1]) ?_
  refine ZS 8 ?_
  refine ZT 29 (.int .u64 (bits .or .u64 ((dg l 1 : Int) * 4294967296) (dg l 0 : Int))) (.int .u64 ((x.natAbs : Nat) : Int)) (by rw [or_join hd1 hd0, hv]) ?_
  refine K0.cond false Zk ?_
  refine ZS 7 ?_
  by_cases g : 9223372036854775808 < x.natAbs
  case pos =>
   have hf := fit_false (x := x) Zo
   refine ZT 37 (.bool (decide (((x.natAbs : Nat) : Int) > 9223372036854775808))) (.bool true) (by rw [decide_eq_true Zo]) ?_
   refine ZI true ?_
   exact ZX (.tuple #[.int .i64 0, .bool false]) (by rw [hf.1, hf.2])
  refine K0.slot 37 (.bool (decide (((x.natAbs : Nat) : Int) > 9223372036854775808))) (.bool false) Zk (by rw [decide_eq_false Zo]) ?_
  refine ZS 10 ?_
  by_cases q : x.natAbs = 9223372036854775808
  case pos =>
   refine ZT 40 (.bool (((x.natAbs : Nat) : Int) == 9223372036854775808)) (.bool true) (by rw [beq_iff_eq.2 Zo]) ?_
   refine K0.both ((!a.s)) Zk (fun hc => ?_) (fun hc => ?_)
   ·have hc2 : a.s = false := by revert hc; cases a.s <;> simp
    have hf := fit_false (x := x) (by have e := hpos hc2; omega)
    refine ZR ?_
    exact ZX (.tuple #[.int .i64 0, .bool false]) (by rw [hf.1, hf.2])
   ·have hc2 : a.s = true := by revert hc; cases a.s <;> simp
    refine ZR ?_
    refine ZJ (a.s) true (hc2) ?_
    exact ZX (.tuple #[.int .i64 (IntKind.i64.wrap (IntKind.u64.wrap (0 - ((x.natAbs : Nat) : Int)))), .bool true]) (by have e := hneg hc2; have ft := Xz (x := x) Zo Zo; rw [ft.1, ft.2, neg_conv Zo, ← e])
  refine ZT 40 (.bool (((x.natAbs : Nat) : Int) == 9223372036854775808)) (.bool false) (by rw [beq_eq_false_iff_ne.2 Zo]) ?_
  refine ZI false ?_
  refine K0.both (a.s) Zk (fun hc => ?_) (fun hc => ?_)
  ·
   refine ZR ?_
   exact ZX (.tuple #[.int .i64 (IntKind.i64.wrap (IntKind.u64.wrap (0 - ((x.natAbs : Nat) : Int)))), .bool true]) (by have e := hneg hc; have ft := Xz (x := x) Zo Zo; rw [ft.1, ft.2, neg_conv Zo, ← e])
  ·
   refine ZR ?_
   exact ZX (.tuple #[.int .i64 (IntKind.i64.wrap ((x.natAbs : Nat) : Int)), .bool true]) (by have e := hpos hc; have ft := Xz (x := x) Zo Zo; rw [ft.1, ft.2, pos_conv Zo, ← e])
end
end Go.Proofs.YtdeepdckmhpldaaGreatDoor
