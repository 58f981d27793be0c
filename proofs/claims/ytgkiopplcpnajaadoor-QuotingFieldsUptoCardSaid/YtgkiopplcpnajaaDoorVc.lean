/-
  Quoting: quoting and its reverse, program and reference.
-/
import Derived.Test.YtgkiopplcpnajaaDoorVb
namespace Go.Proofs.YtgkiopplcpnajaaDoor
set_option linter.unusedVariables false
set_option linter.unusedSimpArgs false
open Go.RowKit

def slC (t : TypeId) (s : Value) (kd : IntKind) (i j : Int) : Sem Next := Instr.sliceAt t s (some (.int kd i)) (some (.int kd j)) none >>= fun v => pure (.value v)
section
variable {P : Program} {w : World} {l : List UInt8} {t : TypeId}
theorem run_slice_both (s : ByteArray) (ht : P.underlying t = some .string) (k1 k2 : IntKind) (a b : Int) (h0 : 0 ≤ a) (h1 : a ≤ b) (h2 : b ≤ s.size) :
    (Instr.slice t (.string s) (some (.int k1 a)) (some (.int k2 b)) none).run P w = .ok (.string (s.extract a.toNat b.toNat)) w := by
  simp [Instr.slice, run_underlying ht, Instr.sliceBounds, run_sliceBound, sliced, *, (by omega : 0 ≤ b)]
  rw [run_sliceBound _ _ _ _ _ h0 (by omega)]
  rfl
theorem sliceAtS {s : Value} {lo hi mx : Option Value} (ht : P.underlying t = some .string) : (Instr.sliceAt t s lo hi mx).run P w = (Instr.slice t s lo hi mx).run P w := run_sliceAt_string w t s lo hi mx ht
theorem run_slC {kd : IntKind} {i j : Nat} (ht : P.underlying t = some .string) (h1 : i ≤ j) (h2 : j ≤ l.length) : (slC t (strOf l) kd i j).run P w = .ok (.value (strOf ((l.take j).drop i))) w := by
  have := run_slice_both (P := P) (w := w) ⟨l.toArray⟩ ht kd kd i j (by omega) (by omega) (by show (j : Int) ≤ ((l.length : Nat) : Int); omega)
  simp only [slC, strOf, Sem.run_bind, sliceAtS ht] at this ⊢
  simp only [this, Result.andThen_ok, Sem.run_pure, Int.toNat_natCast]
  have e : (⟨l.toArray⟩ : ByteArray).extract i j = ⟨((l.take j).drop i).toArray⟩ := by
    apply ByteArray.ext
    simp [ByteArray.data_extract, List.drop_take]
  rw [e]
theorem run_slC1 {kd : IntKind} {i : Nat} {b : UInt8} (ht : P.underlying t = some .string) (h : l[i]? = some b) : (slC t (strOf l) kd i (i + 1 : Nat)).run P w = .ok (.value (strOf [b])) w := by
  obtain ⟨h1, h2⟩ := List.getElem?_eq_some_iff.1 h
  rw [run_slC ht (Nat.le_succ i) h1]
  have : (l.take (i + 1)).drop i = [b] := by
    rw [List.take_add_one, h, List.drop_append_of_le_length (by simp; omega)]
    simp
  rw [this]
end
theorem flat_succ {l : List UInt8} {k : Nat} {c : UInt8} (h : l[k]? = some c) : (l.take (k + 1)).flatMap q1 = (l.take k).flatMap q1 ++ q1 c := by
  rw [List.take_add_one, h]; simp
theorem flat_take_len (l : List UInt8) (k : Nat) : ((l.take k).flatMap q1).length ≤ 3 * l.length := by
  have := (flat_len (l.take k)).2
  have h2 := List.length_take_le k l
  have h3 : (l.take k).length ≤ l.length := by rw [List.length_take]; omega
  omega
theorem drop_at {l : List UInt8} {k : Nat} {c : UInt8} (h : l[k]? = some c) : l.drop k = c :: l.drop (k + 1) := by
  obtain ⟨h1, h2⟩ := List.getElem?_eq_some_iff.1 h
  rw [List.drop_eq_getElem_cons h1, h2]
section
variable {l p : List UInt8} {k : Nat} {a b c : UInt8}
theorem unq_one (h : unqS l = (unqS (l.drop k)).map (p ++ ·)) (hc : l[k]? = some c) (hp : plainB c = true) : unqS l = (unqS (l.drop (k + 1))).map ((p ++ [c]) ++ ·) := by
  rw [h, drop_at hc, unqS_plain hp, Option.map_map]; congr 1; funext q; simp
theorem unq_bad (h : unqS l = (unqS (l.drop k)).map (p ++ ·)) (hc : l[k]? = some c) (hp : plainB c = false) (h2 : c ≠ 42) : unqS l = none := by
  rw [h, drop_at hc, unqS_bad hp h2]; rfl
theorem unq_short (h : unqS l = (unqS (l.drop k)).map (p ++ ·)) (hc : l[k]? = some 42) (h2 : l.length ≤ k + 2) : unqS l = none := by
  rw [h, drop_at hc, unqS_short (by rw [List.length_drop]; have := (List.getElem?_eq_some_iff.1 hc).1; omega)]; rfl
theorem unq_hex (h : unqS l = (unqS (l.drop k)).map (p ++ ·)) (hc : l[k]? = some 42) (ha : l[k + 1]? = some a) (hb : l[k + 2]? = some b) :
    (valH a < 0 ∨ valH b < 0 ∨ plainB (byteH a b) = true → unqS l = none) ∧ (¬ (valH a < 0 ∨ valH b < 0 ∨ plainB (byteH a b) = true) → unqS l = (unqS (l.drop (k + 3))).map ((p ++ [byteH a b]) ++ ·)) := by
  rw [drop_at hc, drop_at ha, drop_at hb, unqS_mark] at h
  constructor
  · intro hv; rw [h, if_pos hv]; rfl
  · intro hv; rw [h, if_neg hv, Option.map_map]; congr 1; funext q; simp
theorem ref_one (h : refS l = (refS (l.drop k)).map (p ++ ·)) (hc : l[k]? = some c) (hp : c ≠ 42) : refS l = (refS (l.drop (k + 1))).map ((p ++ [c]) ++ ·) := by
  rw [h, drop_at hc, refS_plain hp, Option.map_map]; congr 1; funext q; simp
theorem ref_short (h : refS l = (refS (l.drop k)).map (p ++ ·)) (hc : l[k]? = some 42) (h2 : l.length ≤ k + 2) : refS l = none := by
  rw [h, drop_at hc, refS_short (by rw [List.length_drop]; have := (List.getElem?_eq_some_iff.1 hc).1; omega)]; rfl
theorem ref_hex (h : refS l = (refS (l.drop k)).map (p ++ ·)) (hc : l[k]? = some 42) (ha : l[k + 1]? = some a) (hb : l[k + 2]? = some b) :
    (valH a < 0 ∨ valH b < 0 → refS l = none) ∧ (¬ (valH a < 0 ∨ valH b < 0) → refS l = (refS (l.drop (k + 3))).map ((p ++ [byteH a b]) ++ ·)) := by
  rw [drop_at hc, drop_at ha, drop_at hb, refS_mark] at h
  constructor
  · intro hv; rw [h, if_pos hv]; rfl
  · intro hv; rw [h, if_neg hv, Option.map_map]; congr 1; funext q; simp
theorem drop_end (h : l.length ≤ k) : l.drop k = [] := List.drop_of_length_le h
theorem unq_end (h : unqS l = (unqS (l.drop k)).map (p ++ ·)) (h2 : l.length ≤ k) : unqS l = some p := by
  rw [h, drop_end h2, unqS]; show some (p ++ []) = _; rw [List.append_nil]
theorem ref_end (h : refS l = (refS (l.drop k)).map (p ++ ·)) (h2 : l.length ≤ k) : refS l = some p := by
  rw [h, drop_end h2, refS]; show some (p ++ []) = _; rw [List.append_nil]
theorem unqL_none (h1 : l ≠ [42]) (h : unqS l = none) : unqL l = none := by unfold unqL; rw [if_neg h1, h]
theorem unqL_nil (h1 : l ≠ [42]) (h : unqS l = some []) : unqL l = none := by unfold unqL; rw [if_neg h1, h]; rfl
theorem unqL_some (h1 : l ≠ [42]) (h : unqS l = some p) (h2 : p ≠ []) : unqL l = some p := by unfold unqL; rw [if_neg h1, h]; exact if_neg h2
theorem refL_none (h1 : l ≠ [42]) (h : refS l = none) : unqL l = none := by rw [← refL_eq, if_neg h1, h]
theorem refL_nil (h1 : l ≠ [42]) (h : refS l = some p) (h2 : p = [] ∨ quoL p ≠ l) : unqL l = none := by rw [← refL_eq, if_neg h1, h]; exact if_pos h2
theorem refL_some (h1 : l ≠ [42]) (h : refS l = some p) (h2 : p ≠ []) (h3 : quoL p = l) : unqL l = some p := by rw [← refL_eq, if_neg h1, h]; exact if_neg fun k => k.elim h2 fun k => k h3
end
def unqV : Option (List UInt8) → Value
  | some p => .tuple #[strOf p, .int .i64 0]
  | none => .tuple #[strOf [], .int .i64 3]
theorem byteH_nat (a b : UInt8) (ha : 0 ≤ valH a) (hb : 0 ≤ valH b) : IntKind.u8.wrap (bits .or .i64 (IntKind.i64.wrap (valH a * 2 ^ 4)) (valH b)) = ((byteH a b).toNat : Int) := byte_or ⟨ha, (valH_rng a).2⟩ ⟨hb, (valH_rng b).2⟩
theorem byteH_sum (a b : UInt8) (ha : 0 ≤ valH a) (hb : 0 ≤ valH b) : IntKind.u8.wrap (IntKind.i64.wrap (IntKind.i64.wrap (16 * valH a) + valH b)) = ((byteH a b).toNat : Int) := byte_add ⟨ha, (valH_rng a).2⟩ ⟨hb, (valH_rng b).2⟩
theorem wrap_add {k n : Nat} (j : Nat) (h : k + j ≤ n) (hn : n ≤ 1000000) : IntKind.i64.wrap ((k : Int) + (j : Nat)) = ((k + j : Nat) : Int) := by rw [IntWalk.i64_in _ (by omega)]; omega
theorem u8_quo1 (b : UInt8) : IntKind.u8.wrap (IntKind.u8.wrap (((b.toNat : Nat) : Int).tdiv 16) + 1) = ((b.toNat / 16 + 1 : Nat) : Int) := by
  have h : ∀ n : Fin 256, IntKind.u8.wrap (IntKind.u8.wrap (((n.val : Nat) : Int).tdiv 16) + 1) = ((n.val / 16 + 1 : Nat) : Int) := by decide +kernel
  exact h ⟨b.toNat, by have := b.toNat_lt; omega⟩
theorem u8_rem1 (b : UInt8) : IntKind.u8.wrap (((b.toNat : Nat) : Int).tmod 16 + 1) = ((b.toNat % 16 + 1 : Nat) : Int) := by
  have h : ∀ n : Fin 256, IntKind.u8.wrap (((n.val : Nat) : Int).tmod 16 + 1) = ((n.val % 16 + 1 : Nat) : Int) := by decide +kernel
  exact h ⟨b.toNat, by have := b.toNat_lt; omega⟩
section
variable {w : World} {l : List UInt8}
theorem plain_v {c : UInt8} {B : Bool} (h : plainB c = B) : Calls Tryd.prog 24 #[.int .u8 c.toNat] w (CallPost w (fun _ : Unit => .bool B) fun _ _ => True) := h ▸ plain_m c
theorem stands_v {c : UInt8} {B : Bool} (h : plainB c = B) : Calls Tryd.prog 29 #[.int .u8 c.toNat] w (CallPost w (fun _ : Unit => .bool B) fun _ _ => True) := h ▸ stands_m c
set_option maxRecDepth 100000 in
set_option maxHeartbeats 1000000 in
theorem quote_m (hl : l.length ≤ 10000000) : Calls Tryd.prog 12 #[strOf l] w (CallPost w (fun _ : Unit => strOf (quoL l)) fun _ _ => True) := by
  by_cases h0 : l = []
  · subst h0
    refine Good.enter Tryd.func12 rfl ?_
    refine Good.run (by kernel_rfl) (stop := 1) 1000 _ ?_
    refine Good.ask (opS .eql 9 (.tmp 6) (.const (.string ⟨#[]⟩)) (strOf []) (strOf [])) (.bool true) (by kernel_rfl) (fun w1 hw h => run_eqS (by simp)) ?_
    refine Good.run (by kernel_rfl) (stop := 1000) 1000 _ ?_
    refine Good.cond true (by kernel_rfl) ?_
    refine Good.run (by kernel_rfl) (stop := 1000) 1000 _ ?_
    refine Good.ret (v := .string ⟨#[42]⟩) (by kernel_rfl) (fun w1 hw h => ⟨(), rfl, hw, fun _ _ _ => trivial⟩)
  have hq : quoL l = l.flatMap q1 := if_neg h0
  refine Good.enter Tryd.func12 rfl ?_
  refine Good.run (by kernel_rfl) (stop := 1) 1000 _ ?_
  refine Good.ask (opS .eql 9 (.tmp 6) (.const (.string ⟨#[]⟩)) (strOf l) (strOf [])) (.bool false) (by kernel_rfl) (fun w1 hw h => run_eqS (by simpa using h0)) ?_
  refine Good.run (by kernel_rfl) (stop := 1000) 1000 _ ?_
  refine Good.cond false (by kernel_rfl) ?_
  refine Good.run (by kernel_rfl) (stop := 0) 1000 _ ?_
  refine Good.make (allS 44) (ptr) (fun g u => BAt w g [] u) (by kernel_rfl) (fun w1 hw h => make_bld hw.size) (fun g => ?_)
  refine Good.run (by kernel_rfl) (stop := 1000) 1000 _ ?_
  refine Good.loop (ι := {q : Nat // q ≤ l.length}) 31 (fun q => ⟨[(0, .v (strOf l)), (3, .v (ptr g)), (9, .v (.int .i64 l.length)), (10, .v (.int .i64 q.1))], []⟩) (fun q u => BAt w g ((l.take q.1).flatMap q1) u) (fun q => l.length - q.1) (⟨0, Nat.zero_le _⟩) (by kernel_rfl) (fun _ => by kernel_rfl) ⟨by kernel_rfl, by kernel_rfl, by kernel_rfl⟩ (fun u h => h.2) ?_
  rintro ⟨k, hk⟩ gg
  by_cases hlt : k < l.length
  ·
    refine Good.run (by kernel_rfl) (stop := 1000) 1000 _ ?_
    refine Good.condr (decide ((k : Int) < (l.length : Int))) true (by kernel_rfl) (by simp; omega) ?_
    refine Good.run (by kernel_rfl) (stop := 2) 1000 _ ?_
    obtain ⟨c, hc⟩ : ∃ c, l[k]? = some c := ⟨_, List.getElem?_eq_getElem hlt⟩
    have hb := flat_take_len l k
    refine Good.ask (ixS 9 (strOf l) k) (.int .u8 c.toNat) (by kernel_rfl) (fun w1 hw h => run_ixP (by kernel_rfl) hc) ?_
    refine Good.run (by kernel_rfl) (stop := 1000) 1000 _ ?_
    cases hp : plainB c
    · have e1 := q1_not hp
      refine Good.callv (fun w1 hw h => plain_v hp) (by kernel_rfl) (fun u => ?_)
      refine Good.run (by kernel_rfl) (stop := 1000) 1000 _ ?_
      refine Good.cond false (by kernel_rfl) ?_
      refine Good.run (by kernel_rfl) (stop := 1000) 1000 _ ?_
      refine Good.callB (val := fun _ => .nilIface) (Φ' := fun (_ : Unit) u => BAt w g ((l.take k).flatMap q1 ++ [42]) u) (fun w1 hw h => wbyte_m hw h.1 42 (show ((l.take k).flatMap q1).length ≤ 100000000 from by omega)) (by kernel_rfl) (by kernel_rfl) (by kernel_rfl) (fun _ => ?_)
      refine Good.run (by kernel_rfl) (stop := 2) 1000 _ ?_
      refine Good.slot 22 (.int .u8 (((c.toNat : Nat) : Int).fdiv (2 ^ 4))) (.int .u8 ((c.toNat / 16 : Nat) : Int)) (by kernel_rfl) (by rw [u8_shr]) ?_
      refine Good.ask (ixK 9 (strOf hexT) .u8 (c.toNat / 16 : Nat)) (.int .u8 (hexC (c.toNat / 16)).toNat) (by kernel_rfl) (fun w1 hw h => run_ixK (by kernel_rfl) (hexT_at _ (hex_lt c).1)) ?_
      refine Good.run (by kernel_rfl) (stop := 1000) 1000 _ ?_
      refine Good.callB (val := fun _ => .nilIface) (Φ' := fun (_ : Unit) u => BAt w g (((l.take k).flatMap q1 ++ [42]) ++ [hexC (c.toNat / 16)]) u) (fun w1 hw h => wbyte_m hw h _ (by simp only [List.length_append, List.length_singleton]; omega)) (by kernel_rfl) (by kernel_rfl) (by kernel_rfl) (fun _ => ?_)
      refine Good.run (by kernel_rfl) (stop := 2) 1000 _ ?_
      refine Good.slot 26 (.int .u8 (bits .and .u8 ((c.toNat : Nat) : Int) 15)) (.int .u8 ((c.toNat % 16 : Nat) : Int)) (by kernel_rfl) (by rw [u8_and]) ?_
      refine Good.ask (ixK 9 (strOf hexT) .u8 (c.toNat % 16 : Nat)) (.int .u8 (hexC (c.toNat % 16)).toNat) (by kernel_rfl) (fun w1 hw h => run_ixK (by kernel_rfl) (hexT_at _ (hex_lt c).2)) ?_
      refine Good.run (by kernel_rfl) (stop := 1000) 1000 _ ?_
      refine Good.callB (val := fun _ => .nilIface) (Φ' := fun (_ : Unit) u => BAt w g ((((l.take k).flatMap q1 ++ [42]) ++ [hexC (c.toNat / 16)]) ++ [hexC (c.toNat % 16)]) u) (fun w1 hw h => wbyte_m hw h _ (by simp only [List.length_append, List.length_singleton]; omega)) (by kernel_rfl) (by kernel_rfl) (by kernel_rfl) (fun _ => ?_)
      refine Good.run (by kernel_rfl) (stop := 1000) 1000 _ ?_
      refine Good.slot 10 (.int .i64 (IntKind.i64.wrap ((k : Int) + 1))) (.int .i64 ((k + 1 : Nat) : Int)) (by kernel_rfl) (by rw [wrap_succ hlt (by omega)]) ?_
      refine Good.next (⟨k + 1, by omega⟩) (by kernel_rfl) (by show l.length - (k + 1) < l.length - k; omega) ⟨by kernel_rfl, by kernel_rfl, by kernel_rfl⟩ (fun _ h => by show BAt w g ((l.take (k + 1)).flatMap q1) _; rw [flat_succ hc, e1]; simpa [enc2] using h)
    · have e1 := q1_plain hp
      refine Good.callv (fun w1 hw h => plain_v hp) (by kernel_rfl) (fun u => ?_)
      refine Good.run (by kernel_rfl) (stop := 1000) 1000 _ ?_
      refine Good.cond true (by kernel_rfl) ?_
      refine Good.run (by kernel_rfl) (stop := 1000) 1000 _ ?_
      refine Good.callB (val := fun _ => .nilIface) (Φ' := fun (_ : Unit) u => BAt w g ((l.take k).flatMap q1 ++ [c]) u) (fun w1 hw h => wbyte_m hw h.1 c (show ((l.take k).flatMap q1).length ≤ 100000000 from by omega)) (by kernel_rfl) (by kernel_rfl) (by kernel_rfl) (fun _ => ?_)
      refine Good.run (by kernel_rfl) (stop := 1000) 1000 _ ?_
      refine Good.slot 10 (.int .i64 (IntKind.i64.wrap ((k : Int) + 1))) (.int .i64 ((k + 1 : Nat) : Int)) (by kernel_rfl) (by rw [wrap_succ hlt (by omega)]) ?_
      refine Good.next (⟨k + 1, by omega⟩) (by kernel_rfl) (by show l.length - (k + 1) < l.length - k; omega) ⟨by kernel_rfl, by kernel_rfl, by kernel_rfl⟩ (fun _ h => by show BAt w g ((l.take (k + 1)).flatMap q1) _; rw [flat_succ hc, e1]; exact h)
  ·
    refine Good.run (by kernel_rfl) (stop := 1000) 1000 _ ?_
    refine Good.condr (decide ((k : Int) < (l.length : Int))) false (by kernel_rfl) (by simp; omega) ?_
    refine Good.run (by kernel_rfl) (stop := 1000) 1000 _ ?_
    have hfull : l.take k = l := List.take_of_length_le (by omega)
    refine Good.leave (by kernel_rfl) ?_
    refine Good.run (by kernel_rfl) (stop := 1000) 1000 _ ?_
    refine Good.callB (val := fun _ => strOf (l.flatMap q1)) (Φ' := fun (_ : Unit) u => True) (fun w1 hw h => bstr_m hw (by rw [← hfull]; exact h)) (by kernel_rfl) (by kernel_rfl) (by kernel_rfl) (fun _ => ?_)
    refine Good.run (by kernel_rfl) (stop := 1000) 1000 _ ?_
    refine Good.ret (v := strOf (l.flatMap q1)) (by kernel_rfl) (fun w1 hw h => ⟨(), by rw [hq], hw, fun _ _ _ => trivial⟩)
set_option maxRecDepth 100000 in
set_option maxHeartbeats 1000000 in
theorem rquote_m (hl : l.length ≤ 10000000) : Calls Tryd.prog 13 #[strOf l] w (CallPost w (fun _ : Unit => strOf (quoL l)) fun _ _ => True) := by
  by_cases h0 : l = []
  · subst h0
    refine Good.enter Tryd.func13 rfl ?_
    refine Good.run (by kernel_rfl) (stop := 1) 1000 _ ?_
    refine Good.ask (opS .eql 9 (.tmp 7) (.const (.string ⟨#[]⟩)) (strOf []) (strOf [])) (.bool true) (by kernel_rfl) (fun w1 hw h => run_eqS (by simp)) ?_
    refine Good.run (by kernel_rfl) (stop := 1000) 1000 _ ?_
    refine Good.cond true (by kernel_rfl) ?_
    refine Good.run (by kernel_rfl) (stop := 1000) 1000 _ ?_
    refine Good.ret (v := .string ⟨#[42]⟩) (by kernel_rfl) (fun w1 hw h => ⟨(), rfl, hw, fun _ _ _ => trivial⟩)
  have hq : quoL l = l.flatMap q1 := if_neg h0
  refine Good.enter Tryd.func13 rfl ?_
  refine Good.run (by kernel_rfl) (stop := 1) 1000 _ ?_
  refine Good.ask (opS .eql 9 (.tmp 7) (.const (.string ⟨#[]⟩)) (strOf l) (strOf [])) (.bool false) (by kernel_rfl) (fun w1 hw h => run_eqS (by simpa using h0)) ?_
  refine Good.run (by kernel_rfl) (stop := 1000) 1000 _ ?_
  refine Good.cond false (by kernel_rfl) ?_
  refine Good.run (by kernel_rfl) (stop := 1000) 1000 _ ?_
  refine Good.loop (ι := {q : Nat // q ≤ l.length}) 46 (fun q => ⟨[(0, .v (strOf l)), (3, .v (strOf hexT)), (4, .v (strOf ((l.take q.1).flatMap q1))), (5, .v (.int .i64 q.1))], []⟩) (fun q u => True) (fun q => l.length - q.1) (⟨0, Nat.zero_le _⟩) (by kernel_rfl) (fun _ => by kernel_rfl) ⟨by kernel_rfl, by kernel_rfl, by kernel_rfl⟩ (fun u h => trivial) ?_
  rintro ⟨k, hk⟩ gg
  by_cases hlt : k < l.length
  ·
    refine Good.run (by kernel_rfl) (stop := 1000) 1000 _ ?_
    refine Good.condr (decide ((k : Int) < (l.length : Int))) true (by kernel_rfl) (by simp; omega) ?_
    refine Good.run (by kernel_rfl) (stop := 2) 1000 _ ?_
    obtain ⟨c, hc⟩ : ∃ c, l[k]? = some c := ⟨_, List.getElem?_eq_getElem hlt⟩
    have hb := flat_take_len l k
    refine Good.ask (ixS 9 (strOf l) k) (.int .u8 c.toNat) (by kernel_rfl) (fun w1 hw h => run_ixP (by kernel_rfl) hc) ?_
    refine Good.run (by kernel_rfl) (stop := 1000) 1000 _ ?_
    cases hp : plainB c
    · have e1 := q1_not hp
      refine Good.callv (fun w1 hw h => stands_v hp) (by kernel_rfl) (fun u => ?_)
      refine Good.run (by kernel_rfl) (stop := 1000) 1000 _ ?_
      refine Good.cond false (by kernel_rfl) ?_
      refine Good.run (by kernel_rfl) (stop := 7) 1000 _ ?_
      refine Good.slot 30 (.int .u8 (IntKind.u8.wrap (((c.toNat : Nat) : Int).tdiv 16))) (.int .u8 ((c.toNat / 16 : Nat) : Int)) (by kernel_rfl) (by rw [u8_quo]) ?_
      refine Good.slot 33 (.int .u8 (IntKind.u8.wrap (IntKind.u8.wrap (((c.toNat : Nat) : Int).tdiv 16) + 1))) (.int .u8 ((c.toNat / 16 + 1 : Nat) : Int)) (by kernel_rfl) (by rw [u8_quo1]) ?_
      refine Good.askAt 7 (slC 9 (strOf hexT) .u8 (c.toNat / 16 : Nat) (c.toNat / 16 + 1 : Nat)) (strOf [hexC (c.toNat / 16)]) (by kernel_rfl) (fun w1 hw h => run_slC1 (by kernel_rfl) (hexT_at _ (hex_lt c).1)) ?_
      refine Good.run (by kernel_rfl) (stop := 8) 1000 _ ?_
      refine Good.askAt 8 (opS .add 9 (.const (.string ⟨#[42]⟩)) (.tmp 34) (strOf [42]) (strOf [hexC (c.toNat / 16)])) (strOf ([42] ++ [hexC (c.toNat / 16)])) (by kernel_rfl) (fun w1 hw h => run_addP (by simp)) ?_
      refine Good.run (by kernel_rfl) (stop := 15) 1000 _ ?_
      refine Good.slot 38 (.int .u8 (((c.toNat : Nat) : Int).tmod 16)) (.int .u8 ((c.toNat % 16 : Nat) : Int)) (by kernel_rfl) (by rw [u8_rem]) ?_
      refine Good.slot 41 (.int .u8 (IntKind.u8.wrap (((c.toNat : Nat) : Int).tmod 16 + 1))) (.int .u8 ((c.toNat % 16 + 1 : Nat) : Int)) (by kernel_rfl) (by rw [u8_rem1]) ?_
      refine Good.askAt 15 (slC 9 (strOf hexT) .u8 (c.toNat % 16 : Nat) (c.toNat % 16 + 1 : Nat)) (strOf [hexC (c.toNat % 16)]) (by kernel_rfl) (fun w1 hw h => run_slC1 (by kernel_rfl) (hexT_at _ (hex_lt c).2)) ?_
      refine Good.run (by kernel_rfl) (stop := 16) 1000 _ ?_
      refine Good.askAt 16 (opS .add 9 (.tmp 35) (.tmp 42) (strOf ([42] ++ [hexC (c.toNat / 16)])) (strOf [hexC (c.toNat % 16)])) (strOf (q1 c)) (by kernel_rfl) (fun w1 hw h => by rw [run_addP (by simp), e1]; rfl) ?_
      refine Good.run (by kernel_rfl) (stop := 17) 1000 _ ?_
      refine Good.askAt 17 (opS .add 9 (.tmp 27) (.tmp 43) (strOf ((l.take k).flatMap q1)) (strOf (q1 c))) (strOf ((l.take (k + 1)).flatMap q1)) (by kernel_rfl) (fun w1 hw h => by rw [run_addP (by have := (q1_len c).2; omega), flat_succ hc]) ?_
      refine Good.run (by kernel_rfl) (stop := 1000) 1000 _ ?_
      refine Good.slot 5 (.int .i64 (IntKind.i64.wrap ((k : Int) + 1))) (.int .i64 ((k + 1 : Nat) : Int)) (by kernel_rfl) (by rw [wrap_succ hlt (by omega)]) ?_
      refine Good.next (⟨k + 1, by omega⟩) (by kernel_rfl) (by show l.length - (k + 1) < l.length - k; omega) ⟨by kernel_rfl, by kernel_rfl, by kernel_rfl⟩ (fun _ h => trivial)
    · have e1 := q1_plain hp
      refine Good.callv (fun w1 hw h => stands_v hp) (by kernel_rfl) (fun u => ?_)
      refine Good.run (by kernel_rfl) (stop := 1000) 1000 _ ?_
      refine Good.cond true (by kernel_rfl) ?_
      refine Good.run (by kernel_rfl) (stop := 5) 1000 _ ?_
      refine Good.slot 24 (.int .i64 (IntKind.i64.wrap ((k : Int) + 1))) (.int .i64 ((k + 1 : Nat) : Int)) (by kernel_rfl) (by rw [wrap_succ hlt (by omega)]) ?_
      refine Good.ask (slC 9 (strOf l) .i64 k (k + 1 : Nat)) (strOf [c]) (by kernel_rfl) (fun w1 hw h => run_slC1 (by kernel_rfl) hc) ?_
      refine Good.run (by kernel_rfl) (stop := 6) 1000 _ ?_
      refine Good.ask (opS .add 9 (.tmp 20) (.tmp 25) (strOf ((l.take k).flatMap q1)) (strOf [c])) (strOf ((l.take (k + 1)).flatMap q1)) (by kernel_rfl) (fun w1 hw h => by rw [run_addP (by simp only [List.length_singleton]; omega), flat_succ hc, e1]) ?_
      refine Good.run (by kernel_rfl) (stop := 1000) 1000 _ ?_
      refine Good.slot 5 (.int .i64 (IntKind.i64.wrap ((k : Int) + 1))) (.int .i64 ((k + 1 : Nat) : Int)) (by kernel_rfl) (by rw [wrap_succ hlt (by omega)]) ?_
      refine Good.next (⟨k + 1, by omega⟩) (by kernel_rfl) (by show l.length - (k + 1) < l.length - k; omega) ⟨by kernel_rfl, by kernel_rfl, by kernel_rfl⟩ (fun _ h => trivial)
  ·
    refine Good.run (by kernel_rfl) (stop := 1000) 1000 _ ?_
    refine Good.condr (decide ((k : Int) < (l.length : Int))) false (by kernel_rfl) (by simp; omega) ?_
    refine Good.run (by kernel_rfl) (stop := 1000) 1000 _ ?_
    have hfull : l.take k = l := List.take_of_length_le (by omega)
    refine Good.leave (by kernel_rfl) ?_
    refine Good.run (by kernel_rfl) (stop := 1000) 1000 _ ?_
    refine Good.ret (v := strOf ((l.take k).flatMap q1)) (by kernel_rfl) (fun w1 hw h => ⟨(), by rw [hq, hfull], hw, fun _ _ _ => trivial⟩)
end

end Go.Proofs.YtgkiopplcpnajaaDoor
