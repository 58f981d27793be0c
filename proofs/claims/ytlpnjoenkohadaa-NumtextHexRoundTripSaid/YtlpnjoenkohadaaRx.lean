/-
  From arguments that were read as data to their cells, by the shape of their type.
-/
import Derived.Test.YtlpnjoenkohadaaRowA
import Derived.Test.YtlpnjoenkohadaaAo
import Derived.Deep.Slices
namespace Go.Proofs.Ytlpnjoenkohadaa
set_option linter.unusedVariables false
set_option linter.unusedSimpArgs false
open Go.ChangeShapes Go.WideShapes Go.ChangeAt Go.RowKit Go.Deep Go.WideElems Go.Maps Go.Joins

/-- The shape of a type: a row of shapes is nil or cons. -/
inductive Sh where
  | int (k : IntKind)
  | bool
  | str
  | dig
  | sl (n : Nat) (e : Sh)
  | nil
  | cons (n : Nat) (s r : Sh)

/-- Cells of that shape; what slices point to stands in memory. -/
def Rd (w : World) : Sh → List Value → Prop
  | .int k, cs => ∃ z, cs = [.int k z] ∧ (Lit.int k z).wf = true
  | .bool, cs => ∃ b, cs = [.bool b]
  | .str, cs => ∃ s : ByteArray, cs = [.string s] ∧ s.size ≤ maxLen
  | .dig, cs => ∃ A n c l, cs = [.slice A n c] ∧ In w A n c l
  | .sl n e, cs => ∃ A len cap, cs = [.slice A len cap] ∧ len ≤ cap ∧ cap ≤ maxLen ∧ ∀ i, i < len → ∃ (ad : Addr) (xs : List Value), A = some ad ∧ xs.length = n ∧
      (∀ (j : Nat) (v : Value), xs[j]? = some v → w.cell? ((ad.add (i * n)).add j) = some v) ∧ Rd w e xs
  | .nil, cs => cs = []
  | .cons n s r, cs => ∃ a b, cs = a ++ b ∧ a.length = n ∧ Rd w s a ∧ Rd w r b

def shRow (P : Program) (g : TypeId → Option Sh) : List Field → Nat → Option Sh
  | [], _ => some .nil
  | f :: r, off => if f.offset = off then (match g f.type, shRow P g r (off + P.cellsOf f.type) with
    | some a, some b => some (.cons (P.cellsOf f.type) a b)
    | _, _ => none) else none
def shRep (m : Nat) (s : Sh) : Nat → Sh
  | 0 => .nil
  | n + 1 => .cons m s (shRep m s n)
def sumF (P : Program) : List Field → Nat
  | [] => 0
  | f :: r => P.cellsOf f.type + sumF P r
/-- The shape of a type. -/
def shOf (P : Program) : Nat → TypeId → Option Sh
  | 0, _ => none
  | n + 1, t => match P.underlying t with
    | some (.int k) => some (.int k)
    | some .bool => some .bool
    | some .string => some .str
    | some (.slice e) => match P.underlying e with
      | some (.int .u32) => if P.cellsOf e = 1 then some .dig else none
      | _ => match shOf P n e with
        | some s => some (.sl (P.cellsOf e) s)
        | none => none
    | some (.struct fs) => if P.cellsOf t = sumF P fs.toList then shRow P (shOf P n) fs.toList 0 else none
    | some (.array m e) => if P.cellsOf t = m * P.cellsOf e then (match shOf P n e with
      | some s => some (shRep (P.cellsOf e) s m)
      | none => none) else none
    | _ => none

section
variable {H : Type} {enc : TypeId × Value → H} {P : Program} {w : World} {base : Nat} {held : Bool}
theorem rd_row {g : TypeId → Option Sh} {m : Nat} {cs : List Value} (hg : ∀ t sh cs x, g t = some sh → DataW.trod enc P w base (fun _ => true) held m t cs = some x → Rd w sh cs) : ∀ (l : List Field) (off : Nat) (sh : Sh), shRow P g l off = some sh →
    cs.length = off + sumF P l → (∀ f ∈ l, ∃ x, DataW.trod enc P w base (fun _ => true) held m f.type ((cs.drop f.offset).take (P.cellsOf f.type)) = some x) → Rd w sh (cs.drop off)
  | [], off, sh, h, hl, _ => by
    simp only [shRow, Option.some.injEq] at h
    subst h
    simp only [Rd, List.drop_eq_nil_iff]
    simp only [sumF] at hl
    omega
  | f :: r, off, sh, h, hl, hx => by
    simp only [shRow] at h
    split at h
    · rename_i hoff
      split at h
      · rename_i a b ha hb
        injection h with h
        subst h
        simp only [sumF] at hl
        obtain ⟨x, hx0⟩ := hx f (List.mem_cons_self ..)
        rw [hoff] at hx0
        refine ⟨(cs.drop off).take (P.cellsOf f.type), (cs.drop off).drop (P.cellsOf f.type), (List.take_append_drop _ _).symm, ?_, hg _ _ _ _ ha hx0, ?_⟩
        · rw [List.length_take, List.length_drop]; omega
        · rw [List.drop_drop]
          exact rd_row hg r _ b hb (by omega) fun f' hf' => hx f' (List.mem_cons_of_mem _ hf')
      · cases h
    · cases h
theorem rd_rep {n : Nat} {s : Sh} : ∀ (k : Nat) (cs : List Value), cs.length = k * n → (∀ i, i < k → Rd w s ((cs.drop (i * n)).take n)) → Rd w (shRep n s k) cs
  | 0, cs, hl, _ => by
    show cs = []
    exact List.length_eq_zero_iff.1 (by omega)
  | k + 1, cs, hl, h => by
    have e : (k + 1) * n = k * n + n := Nat.succ_mul k n
    have h0 := h 0 (by omega)
    rw [Nat.zero_mul, List.drop_zero] at h0
    refine ⟨cs.take n, cs.drop n, (List.take_append_drop _ _).symm, by rw [List.length_take]; omega, h0, rd_rep k _ (by rw [List.length_drop]; omega) fun i hi => ?_⟩
    have := h (i + 1) (by omega)
    rwa [Nat.succ_mul, Nat.add_comm (i * n) n, ← List.drop_drop] at this
theorem rd_of_trod : ∀ (n : Nat) (m : Nat) (t : TypeId) (cs : List Value) (x : DataW H × List MemPlace) (sh : Sh), shOf P n t = some sh → DataW.trod enc P w base (fun _ => true) held m t cs = some x → Rd w sh cs
  | 0, _, _, _, _, _, h, _ => by cases h
  | n + 1, m, t, cs, x, sh, h, hx => by
    simp only [shOf] at h
    split at h
    · rename_i k hu
      injection h with h; subst h
      obtain ⟨z, h1, h2⟩ := DataW.trod_int hu hx
      exact ⟨z, h1, h2.2⟩
    · rename_i hu
      injection h with h; subst h
      obtain ⟨b, h1, _⟩ := DataW.trod_bool hu hx
      exact ⟨b, h1⟩
    · rename_i hu
      injection h with h; subst h
      obtain ⟨s, h1, h2⟩ := DataW.trod_string hu hx
      exact ⟨s, h1, h2.2⟩
    · rename_i e hu
      split at h
      · rename_i he
        split at h
        · rename_i hc
          injection h with h; subst h
          have hone : ∃ v, cs = [v] := by
            rcases open_slice hu hx with ⟨hcs, _⟩ | ⟨a, len, cap, m, k, D, Pl, hcs, _⟩
            · exact ⟨_, hcs⟩
            · exact ⟨_, hcs⟩
          obtain ⟨v, rfl⟩ := hone
          obtain ⟨A, n', c, l, rfl, hin⟩ := slice_of_read hu he hc hx
          exact ⟨A, n', c, l, rfl, hin⟩
        · cases h
      · split at h
        · rename_i s hs
          injection h with h; subst h
          rcases open_slice hu hx with ⟨hcs, _⟩ | ⟨a, len, cap, m', k, D, Pl, hcs, hb, hl, hm, hmm, _, hel⟩
          · exact ⟨none, 0, 0, hcs, Nat.le_refl _, Nat.zero_le _, fun i hi => absurd hi (Nat.not_lt_zero _)⟩
          · refine ⟨some a, len, cap, hcs, hl, hm, fun i hi => ?_⟩
            obtain ⟨cs', k1, k2⟩ := hel i (by rw [hmm]; simp; omega)
            obtain ⟨_, k5, k3⟩ := World.cells?_some k1
            exact ⟨a, cs', rfl, k5, fun j v hv => (k3 j (by rw [← k5]; exact (List.getElem?_eq_some_iff.1 hv).1)).trans hv, rd_of_trod n k e cs' _ s hs k2⟩
        · cases h
    · rename_i fs hu
      split at h
      · rename_i hc
        obtain ⟨xs, n', _, rfl, hl, hlen, hf⟩ := DataW.trod_struct hu hx
        have := rd_row (w := w) (base := base) (held := held) (enc := enc) (cs := cs) (fun t' sh' cs' x' h1 h2 => rd_of_trod n n' t' cs' x' sh' h1 h2) fs.toList 0 sh h (by omega) (fun f hf' => by
          obtain ⟨i, hi⟩ := List.mem_iff_getElem?.1 hf'
          have h3 := hf i f (by simpa using hi)
          have h4 : i < xs.length := by rw [hlen]; exact (Array.getElem?_eq_some_iff.1 (show fs[i]? = some f by simpa using hi)).1
          rw [List.getElem?_eq_getElem h4] at h3
          exact ⟨_, h3⟩)
        exact this
      · cases h
    · rename_i m' e hu
      split at h
      · rename_i hc
        split at h
        · rename_i s hs
          injection h with h; subst h
          obtain ⟨xs, k, _, _, hl, hlen, hf⟩ := DataW.trod_array hu hx
          refine rd_rep m' cs (by rw [hl, hc]) fun i hi => ?_
          have h3 := hf i hi
          obtain ⟨y, hy⟩ : ∃ y, xs[i]? = some y := ⟨_, List.getElem?_eq_getElem (by omega)⟩
          rw [hy] at h3
          exact rd_of_trod n k e _ y s hs h3
        · cases h
      · cases h
    · cases h
theorem rd_of_read {r : Reach} {b0 n : Nat} {t : TypeId} {sh : Sh} {v : Value} {d : DataW H} {p : List MemPlace} (hs : shOf P n t = some sh) (hr : (match P.underlying t with | some (.struct _) | some (.array _ _) => true | _ => false) = true)
    (hv : Value.okWide P w r b0 t v) (h : DataW.Trod enc P w base (fun _ => true) held t v d p) : ∃ cs : List Value, v = .agg cs.toArray ∧ Rd w sh cs := by
  obtain ⟨fuel, hf⟩ := h
  have h1 := rd_of_trod n fuel t _ _ sh hs hf
  unfold Value.okWide at hv
  split at hv
  · obtain ⟨cs, rfl, _⟩ := hv
    exact ⟨cs.toList, by simp, h1⟩
  · obtain ⟨cs, rfl, _⟩ := hv
    exact ⟨cs.toList, by simp, h1⟩
  · rename_i hn1 hn2
    split at hr
    · rename_i hu; exact absurd hu (hn1 _)
    · rename_i hu; exact absurd hu (hn2 _ _)
    · cases hr
end

def shPt : Sh := .cons 1 (.int .i64) (.cons 1 (.int .i64) .nil)
def shRat : Sh := .cons 2 (.cons 1 .bool (.cons 1 .dig .nil)) (.cons 2 (.cons 1 .bool (.cons 1 .dig .nil)) .nil)
section
variable {w : World} {cs : List Value} {n : Nat} {s r : Sh} {k : IntKind}
theorem rd_int (h : Rd w (.cons n (.int k) r) cs) : ∃ z t, cs = .int k z :: t ∧ (Lit.int k z).wf = true ∧ Rd w r t := by
  obtain ⟨a, b, rfl, _, ⟨z, rfl, hz⟩, hb⟩ := h
  exact ⟨z, b, rfl, hz, hb⟩
theorem rd_pt (h : Rd w shPt cs) : ∃ X Y, cs = [.int .i64 X, .int .i64 Y] ∧ (-9223372036854775808 ≤ X ∧ X ≤ 9223372036854775807) ∧ (-9223372036854775808 ≤ Y ∧ Y ≤ 9223372036854775807) := by
  obtain ⟨X, t, rfl, hX, h⟩ := rd_int h
  obtain ⟨Y, t, rfl, hY, h⟩ := rd_int h
  obtain rfl : t = [] := h
  exact ⟨X, Y, rfl, i64_wf hX, i64_wf hY⟩
theorem rd_rat (h : Rd w shRat cs) : ∃ r : RV, cs = r.cl ∧ In w r.a.A r.a.n r.a.c r.a.l ∧ In w r.b.A r.b.n r.b.c r.b.l := by
  obtain ⟨a, b, rfl, _, h1, c, d, rfl, _, h2, rfl⟩ := h
  obtain ⟨a1, b1, rfl, _, ⟨s1, rfl⟩, a2, b2, rfl, _, ⟨A1, n1, c1, l1, rfl, i1⟩, rfl⟩ := h1
  obtain ⟨a3, b3, rfl, _, ⟨s2, rfl⟩, a4, b4, rfl, _, ⟨A2, n2, c2, l2, rfl, i2⟩, rfl⟩ := h2
  exact ⟨⟨⟨s1, A1, n1, c1, l1⟩, ⟨s2, A2, n2, c2, l2⟩⟩, rfl, i1, i2⟩
end
def shI : Sh := .cons 1 .bool (.cons 1 .dig .nil)
theorem rd_I {w : World} {cs : List Value} (h : Rd w shI cs) : ∃ v : SV, cs = [.bool v.s, .slice v.A v.n v.c] ∧ In w v.A v.n v.c v.l := by
  obtain ⟨a1, b1, rfl, _, ⟨s1, rfl⟩, a2, b2, rfl, _, ⟨A1, n1, c1, l1, rfl, i1⟩, rfl⟩ := h
  exact ⟨⟨s1, A1, n1, c1, l1⟩, rfl, i1⟩
def sh2 (n : Nat) (s : Sh) : Sh := .cons n s (.cons n s .nil)
theorem rd_2 {w : World} {n : Nat} {s : Sh} {cs : List Value} (h : Rd w (sh2 n s) cs) : ∃ a b, cs = a ++ b ∧ Rd w s a ∧ Rd w s b := by
  obtain ⟨a, b, rfl, _, h1, c, d, rfl, _, h2, rfl⟩ := h
  exact ⟨a, c, by simp, h1, h2⟩
def shAff : Sh := .cons 4 shRat (.cons 4 shRat (.cons 4 shRat (.cons 4 shRat (.cons 4 shRat (.cons 4 shRat .nil)))))
def InR (r : RV) (w : World) : Prop := In w r.a.A r.a.n r.a.c r.a.l ∧ In w r.b.A r.b.n r.b.c r.b.l
theorem rd_cons {w : World} {n : Nat} {s r : Sh} {cs : List Value} (h : Rd w (.cons n s r) cs) : ∃ a b, cs = a ++ b ∧ a.length = n ∧ Rd w s a ∧ Rd w r b := h
theorem rd_rat' {w : World} {cs : List Value} (h : Rd w shRat cs) : ∃ r : RV, cs = r.cl ∧ InR r w := by
  obtain ⟨r, h1, h2⟩ := rd_rat h
  exact ⟨r, h1, h2⟩

end Go.Proofs.Ytlpnjoenkohadaa
