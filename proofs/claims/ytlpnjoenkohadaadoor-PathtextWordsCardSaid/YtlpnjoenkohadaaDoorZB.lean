/-
  Strings, rows of strings, bytes, points: what the laws on paths stand on.
-/
import Derived.Test.YtlpnjoenkohadaaDoorUP
import Derived.OpenShut
import Derived.Lib.SmallJoins
import Derived.ChangeSlices
import Derived.Deep.Slices
import Derived.Test.YtlpnjoenkohadaaDoorShelf
import Derived.Scope
import Derived.Deep.Upon
namespace Go.Proofs.YtlpnjoenkohadaaDoor
set_option linter.unusedVariables false
set_option linter.unusedSimpArgs false
open Go.RowKit

open Go.RowKit
def appS (t ty : TypeId) (x y : Value) : Sem Next := Builtin.append_ #[t, t] ty #[x, y] >>= fun v => pure (.value v)
def bl (A : Option Addr) : List Nat := match A with | some p => [p.block] | none => []
def infoOf (P : Program) (e : TypeId) : Option (Value × Nat × Nat) := (P.info? e).bind fun i => i.zero.map fun z => (z, i.size, i.bytes)
/-- A row of the call's own: n elements of s cells each, its cells xs. -/
def OwnR (u : World) (B : Nat) (elem : TypeId) (s : Nat) (A : Option Addr) (n c : Nat) (xs : List Value) : Prop := u.ownsRow B elem s (.slice A n c) n xs
section
variable {P : Program} {w w' u : World} {B s n c m cc : Nat} {A A2 : Option Addr} {xs ys : List Value} {t elem : TypeId} {bytes : Nat} {z : Value}
theorem OwnR.nil_ : OwnR u B elem s none 0 0 [] := ⟨by simp, .inl ⟨rfl, rfl⟩⟩
theorem OwnR.len (h : OwnR u B elem s A n c xs) : xs.length = n * s := h.1
theorem OwnR.blk (h : OwnR u B elem s A n c xs) : ∀ b ∈ bl A, B ≤ b ∧ ∃ cs ty own, u.heap[b]? = some (.cells cs ty own) := by
  intro b hb
  rcases h.2 with ⟨h1, _⟩ | ⟨g, cap, cur, h1, hB, hh, _⟩
  · injection h1 with h1 _ _
    subst h1; cases hb
  · injection h1 with h1 _ _
    subst h1
    simp only [bl, List.mem_singleton] at hb
    subst hb
    exact ⟨hB, _, _, _, hh⟩
theorem OwnR.lt (h : OwnR u B elem s A n c xs) : ∀ b ∈ bl A, B ≤ b ∧ b < u.heap.size := fun b hb => by
  obtain ⟨h1, _, _, _, h2⟩ := h.blk b hb
  exact ⟨h1, (Array.getElem?_eq_some_iff.1 h2).1⟩
theorem OwnR.same (h : OwnR u B elem s A n c xs) (e : ∀ b ∈ bl A, w.heap[b]? = u.heap[b]?) : OwnR w B elem s A n c xs := by
  refine ⟨h.1, ?_⟩
  rcases h.2 with h1 | ⟨g, cap, cur, h1, hB, hh, rest⟩
  · exact .inl h1
  · refine .inr ⟨g, cap, cur, h1, hB, ?_, rest⟩
    injection h1 with h1 _ _
    subst h1
    exact (e g (by simp [bl])).trans hh
theorem OwnR.left {L : List Nat} (h : OwnR u B elem s A n c xs) (e2 : ∀ b, b ∉ L → u.heap[b]? = w.heap[b]?) (hd : ∀ b ∈ bl A, b ∉ L) : OwnR w B elem s A n c xs := h.same fun b hb => (e2 b (hd b hb)).symm
theorem OwnR.below (h : OwnR u B elem s A n c xs) (hb : Below u.heap.size u w) : OwnR w B elem s A n c xs := h.same fun b hbl => hb.block b (h.lt b hbl).2
theorem OwnR.rebase {B' : Nat} (h : OwnR u B elem s A n c xs) (hB : ∀ b ∈ bl A, B' ≤ b) : OwnR u B' elem s A n c xs := by
  refine ⟨h.1, ?_⟩
  rcases h.2 with h1 | ⟨g, cap, cur, h1, _, rest⟩
  · exact .inl h1
  · refine .inr ⟨g, cap, cur, h1, ?_, rest⟩
    injection h1 with h1 _ _
    subst h1
    exact hB g (by simp [bl])
/-- The row's cells. -/
theorem OwnR.cells (h : OwnR u B elem s A n c xs) (h0 : 0 < n) : ∃ g, A = some ⟨g, 0, none⟩ ∧ ∀ (j : Nat) (v : Value), xs[j]? = some v → u.cell? ⟨g, j, none⟩ = some v := by
  rcases h.2 with ⟨_, h1⟩ | ⟨g, cap, cur, h1, hB, hh, hn, hc, hs, ht⟩
  · omega
  · injection h1 with h1 _ _
    refine ⟨g, h1, fun j v hv => ?_⟩
    rw [← ht, List.getElem?_take] at hv
    simp only [World.cell?, hh, Option.isSome_none, Bool.false_eq_true, if_false]
    split at hv
    · simpa using hv
    · cases hv
theorem OwnR.reads (h : OwnR u B elem s A n c xs) : Reads u u.heap.size s A n xs := by
  refine ⟨h.1, fun h0 => ?_⟩
  obtain ⟨g, hA, hc⟩ := h.cells h0
  refine ⟨_, hA, ?_, fun j v hv => by rw [Addr.add_mid, Nat.zero_add]; exact hc j v hv⟩
  subst hA
  exact (h.lt g (by simp [bl])).2
theorem litG_reads {g : Nat} {cells : Array Value} (h : litG elem cells g w) (hn : cells.size = n * s) : Reads w w.heap.size s (some ⟨g, 0, none⟩) n cells.toList := by
  refine ⟨by simpa using hn, fun _ => ⟨_, rfl, (Array.getElem?_eq_some_iff.1 h).1, fun j u hu => ?_⟩⟩
  rw [Addr.add_mid, Nat.zero_add]
  unfold litG at h
  simp only [World.cell?, h, Option.isSome_none, Bool.false_eq_true, if_false]
  simpa using hu
theorem OwnR.lit {g : Nat} {cells : Array Value} (h : litG elem cells g w) (hn : cells.size = n * s) (hB : B ≤ g) (hm : n ≤ maxLen) : OwnR w B elem s (some ⟨g, 0, none⟩) n n cells.toList := by
  refine ⟨by simpa using hn, .inr ⟨g, n, cells, rfl, hB, h, Nat.le_refl _, hm, hn, ?_⟩⟩
  rw [List.take_of_length_le (by simp; omega)]
/-- Append: in place where there is room, else into a new block. -/
theorem appendR_m (hu : P.underlying t = some (.slice elem)) (hi : infoOf P elem = some (z, s, bytes)) (hzs : z.cells.size = s) (hs : 0 < s) (h : OwnR w B elem s A n c xs) (hB : B ≤ w.heap.size) (hr : Reads w w.heap.size s A2 m ys) (h1 : ∀ v ∈ ys, v.oneCell' = true)
    (hn : n + m ≤ 100000000) (hb : bytes ≤ 10000) :
    MutRun P w (bl A) (fun y : Option Addr × Nat => .slice y.1 (n + m) y.2) (fun y v => OwnR v B elem s y.1 (n + m) y.2 (xs ++ ys)) (appS t t (.slice A n c) (.slice A2 m cc)) := by
  unfold infoOf at hi
  obtain ⟨i, hi0, hi1⟩ := Option.bind_eq_some_iff.1 hi
  obtain ⟨z', hz, hi2⟩ := Option.map_eq_some_iff.1 hi1
  simp only [Prod.mk.injEq] at hi2
  obtain ⟨rfl, hsz, hby⟩ := hi2
  have hbytes : (n + m) * bytes ≤ 140737488355328 := Nat.le_trans (Nat.mul_le_mul hn hb) (by decide)
  obtain ⟨v', w', hrun, h2, h3, h4⟩ := run_append_any (P := P) w B t t elem i z' s bytes hu hi0 hz hsz hby hzs hs _ n _ h w.heap.size A2 m cc ys hr h1 (by simp only [maxLen]; omega) hbytes hB
  obtain ⟨A', c', rfl⟩ : ∃ A' c', v' = .slice A' (n + m) c' := by
    rcases h2.2 with ⟨h5, h0⟩ | ⟨g, cap, cur, h5, _⟩
    · exact ⟨none, 0, by rw [h5, h0]⟩
    · exact ⟨_, _, h5⟩
  have hown : OwnR w' B elem s A' (n + m) c' (xs ++ ys) := h2
  refine ⟨(A', c'), w', by simp only [appS, Sem.run_bind, hrun, Result.andThen_ok, Sem.run_pure], ⟨h3.os, h3.tape, h3.output, h3.size, fun k hk hL => h3.block k hk (fun e => hL ?_)⟩, fun w'' k1 k2 => hown.same fun b hb => k2 b ?_⟩
  · cases A with
    | none => simp [Value.ownBlock] at e
    | some p => simp [Value.ownBlock] at e; simp [bl, e]
  · have hlt := (hown.lt b hb).2
    cases A' with
    | none => cases hb
    | some p' =>
      simp only [bl, List.mem_singleton] at hb
      subst hb
      rcases h4 with e | e
      · left
        cases A with
        | none => simp [Value.ownBlock] at e
        | some p => simp [Value.ownBlock] at e; simp [bl, e]
      · right
        simp [Value.ownBlock] at e
        exact ⟨by omega, hlt⟩
theorem OwnR.ty (h : OwnR u B elem s A n c xs) : ∀ b ∈ bl A, ∃ cur own, u.heap[b]? = some (.cells cur elem own) := by
  intro b hb
  rcases h.2 with ⟨h1, _⟩ | ⟨g, cap, cur, h1, hB, hh, _⟩
  · injection h1 with h1 _ _
    subst h1; cases hb
  · injection h1 with h1 _ _
    subst h1
    simp only [bl, List.mem_singleton] at hb
    subst hb
    exact ⟨_, _, hh⟩
/-- Append where there is no room: only new memory. -/
theorem appendG_m {b a : Addr} (hu : P.underlying t = some (.slice elem)) (hi : infoOf P elem = some (z, s, bytes)) (hzs : z.cells.size = s) (hs : 0 < s) (hx : Reads w w.heap.size s (some b) n xs) (hr : Reads w w.heap.size s (some a) m ys)
    (hc : c < n + m) (hn : n + m ≤ 100000000) (hb : bytes ≤ 10000) (hB : B ≤ w.heap.size) (h0 : 0 < n ∨ xs = []) (h1 : 0 < m ∨ ys = []) :
    MakePost P w (fun y : Option Addr × Nat => .slice y.1 (n + m) y.2) (fun y v => OwnR v B elem s y.1 (n + m) y.2 (xs ++ ys)) (appS t t (.slice (some b) n c) (.slice (some a) m cc)) := by
  unfold infoOf at hi
  obtain ⟨i, hi0, hi1⟩ := Option.bind_eq_some_iff.1 hi
  obtain ⟨z', hz, hi2⟩ := Option.map_eq_some_iff.1 hi1
  simp only [Prod.mk.injEq] at hi2
  obtain ⟨rfl, hsz, hby⟩ := hi2
  have hbytes : (n + m) * bytes ≤ 140737488355328 := Nat.le_trans (Nat.mul_le_mul hn hb) (by decide)
  have rd : ∀ {b : Addr} {n : Nat} {xs : List Value}, Reads w w.heap.size s (some b) n xs → (0 < n ∨ xs = []) → ∀ j u, xs[j]? = some u → w.cell? (b.add j) = some u := fun hx h0 j u hj => by
    rcases h0 with h0 | h0
    · obtain ⟨ad, hA, _, hc⟩ := hx.2 h0
      injection hA with hA
      subst hA
      exact hc j u hj
    · subst h0; cases hj
  obtain ⟨v', w', hrun, h2, h3⟩ := run_append_arg_grows (P := P) w t t elem i z' s bytes hu hi0 hz hsz hby hzs hs b n c xs hx.1 (rd hx h0) a m cc ys hr.1 (rd hr h1) hc (by simp only [maxLen]; omega) hbytes
  obtain ⟨A', c', rfl⟩ : ∃ A' c', v' = .slice A' (n + m) c' := by
    rcases h2.2 with ⟨h5, h0⟩ | ⟨g, cap, cur, h5, _⟩
    · exact ⟨none, 0, by rw [h5, h0]⟩
    · exact ⟨_, _, h5⟩
  have hown : OwnR w' w.heap.size elem s A' (n + m) c' (xs ++ ys) := h2
  exact ⟨(A', c'), w', by simp only [appS, Sem.run_bind, hrun, Result.andThen_ok, Sem.run_pure], ⟨h3.os, h3.tape, h3.output, h3.size, fun k hk => h3.block k hk (by simp)⟩, fun w'' k1 k2 => (hown.same fun b hb => k2 b (hown.lt b hb).1 (hown.lt b hb).2).rebase fun b hb => Nat.le_trans hB (hown.lt b hb).1⟩
end
open Go.RowKit
theorem in_of_row {w : World} {a : Option Addr} {len cap : Nat} {zs : List Int}
    (h : (a = none ∧ len = 0 ∧ cap = 0 ∧ zs = []) ∨ ∃ x, a = some x ∧ len ≤ cap ∧ cap ≤ maxLen ∧ zs.length = cap ∧ (∀ i, i < zs.length → w.cell? (x.add i) = some (.int .u32 (zs.getD i 0))) ∧ ∀ n ∈ zs, (Lit.int .u32 n).wf = true) :
    ∃ l, In w a len cap l := by
  rcases h with ⟨rfl, rfl, rfl, rfl⟩ | ⟨x, rfl, hl, hm, hz, hc, hwf⟩
  · exact ⟨[], In.nil_⟩
  · have hb : ∀ i, i < zs.length → 0 ≤ zs.getD i 0 ∧ zs.getD i 0 ≤ 4294967295 := by
      intro i hi
      have hmem : zs.getD i 0 ∈ zs := by
        rw [List.getD_eq_getElem?_getD, List.getElem?_eq_getElem hi]
        exact List.getElem_mem hi
      exact bounds_u32 (hwf _ hmem)
    have hlen : ((zs.take len).map Int.toNat).length = len := by rw [List.length_map, List.length_take]; omega
    have hget : ∀ i, i < len → (dg ((zs.take len).map Int.toNat) i : Int) = zs.getD i 0 := by
      intro i hi
      have h1 := hb i (by omega)
      have h2 : dg ((zs.take len).map Int.toNat) i = (zs.getD i 0).toNat := by
        simp [dg, List.getElem?_take, hi, List.getElem?_eq_getElem (show i < zs.length by omega)]
      rw [h2]; omega
    refine ⟨(zs.take len).map Int.toNat, ?_, hlen, hl, hm, ⟨by rw [u32s_length, hlen]; omega, fun h0 => ?_⟩⟩
    · intro i
      by_cases hi : i < len
      · have h1 := hb i (by omega)
        have h2 := hget i hi
        omega
      · rw [dg_out (by omega)]; omega
    · have hlt : x.block < w.heap.size := by
        have h1 := World.block_lt_of_cell? w (x.add 0) (hc 0 (by omega))
        rwa [block_of_add] at h1
      refine ⟨x, rfl, hlt, fun j u hu => ?_⟩
      have hj : j < len := by
        have := (List.getElem?_eq_some_iff.1 hu).1
        rw [u32s_length, hlen] at this; exact this
      rw [u32s_get (by rw [hlen]; exact hj), hget j hj] at hu
      rw [hc j (by omega)]; exact hu
open Go.RowKit
open Go.ChangeShapes Go.WideShapes Go.ChangeAt Go.RowKit Go.Deep Go.WideElems Go.Maps Go.Joins
variable {H : Type} {enc : TypeId × Value → H} {P : Program} {w : World} {base : Nat} {held : Bool}
theorem slice_of_read {t e : TypeId} {fuel : Nat} {v : Value} {x : DataW H × List MemPlace} (ht : P.underlying t = some (.slice e)) (he : P.underlying e = some (.int .u32)) (hc : P.cellsOf e = 1)
    (h : DataW.trod enc P w base (fun _ => true) held fuel t [v] = some x) : ∃ A n c l, v = .slice A n c ∧ In w A n c l := by
  rcases open_ints ht he hc h with ⟨hcs, _⟩ | ⟨a, l, c, zs, hcs, _, hl, hm, hz, _, hcell, hwz⟩
  · simp at hcs
    subst hcs
    exact ⟨none, 0, 0, [], rfl, In.nil_⟩
  · simp at hcs
    subst hcs
    obtain ⟨l', hin⟩ := in_of_row (w := w) (a := some a) (len := l) (cap := c) (zs := zs) (.inr ⟨_, rfl, hl, hm, by simpa using hz, hcell, hwz⟩)
    exact ⟨_, _, _, l', rfl, hin⟩
open Go.ChangeShapes Go.WideShapes Go.ChangeAt Go.RowKit Go.Deep Go.WideElems Go.Maps Go.Joins
section
variable {H : Type} {enc : TypeId × Value → H} {P : Program} {w : World} {base : Nat} {held : Bool}
end
theorem i64_wf {z : Int} (h : (Lit.int .i64 z).wf = true) : -9223372036854775808 ≤ z ∧ z ≤ 9223372036854775807 := by
  simp only [Lit.wf, Bool.and_eq_true, decide_eq_true_eq] at h
  exact ⟨h.1, h.2⟩
open Go.ChangeShapes Go.WideShapes Go.ChangeAt Go.RowKit Go.Deep Go.WideElems Go.Maps Go.Joins
/-- The shape of a type: a row of shapes is nil or cons. -/
inductive Sh where
  | int (k : IntKind)
  | bool
  | str
  | dig
  | sl (n : Nat) (e : Sh)
  | nil
  | cons (n : Nat) (s r : Sh)
/-- Cells of that shape; what slices point to stands in memory. -/
def Rd (w : World) : Sh → List Value → Prop
  | .int k, cs => ∃ z, cs = [.int k z] ∧ (Lit.int k z).wf = true
  | .bool, cs => ∃ b, cs = [.bool b]
  | .str, cs => ∃ s : ByteArray, cs = [.string s] ∧ s.size ≤ maxLen
  | .dig, cs => ∃ A n c l, cs = [.slice A n c] ∧ In w A n c l
  | .sl n e, cs => ∃ A len cap, cs = [.slice A len cap] ∧ len ≤ cap ∧ cap ≤ maxLen ∧ ∀ i, i < len → ∃ (ad : Addr) (xs : List Value), A = some ad ∧ xs.length = n ∧
      (∀ (j : Nat) (v : Value), xs[j]? = some v → w.cell? ((ad.add (i * n)).add j) = some v) ∧ Rd w e xs
  | .nil, cs => cs = []
  | .cons n s r, cs => ∃ a b, cs = a ++ b ∧ a.length = n ∧ Rd w s a ∧ Rd w r b
def shRow (P : Program) (g : TypeId → Option Sh) : List Field → Nat → Option Sh
  | [], _ => some .nil
  | f :: r, off => if f.offset = off then (match g f.type, shRow P g r (off + P.cellsOf f.type) with
    | some a, some b => some (.cons (P.cellsOf f.type) a b)
    | _, _ => none) else none
def shRep (m : Nat) (s : Sh) : Nat → Sh
  | 0 => .nil
  | n + 1 => .cons m s (shRep m s n)
def sumF (P : Program) : List Field → Nat
  | [] => 0
  | f :: r => P.cellsOf f.type + sumF P r
/-- The shape of a type. -/
def shOf (P : Program) : Nat → TypeId → Option Sh
  | 0, _ => none
  | n + 1, t => match P.underlying t with
    | some (.int k) => some (.int k)
    | some .bool => some .bool
    | some .string => some .str
    | some (.slice e) => match P.underlying e with
      | some (.int .u32) => if P.cellsOf e = 1 then some .dig else none
      | _ => match shOf P n e with
        | some s => some (.sl (P.cellsOf e) s)
        | none => none
    | some (.struct fs) => if P.cellsOf t = sumF P fs.toList then shRow P (shOf P n) fs.toList 0 else none
    | some (.array m e) => if P.cellsOf t = m * P.cellsOf e then (match shOf P n e with
      | some s => some (shRep (P.cellsOf e) s m)
      | none => none) else none
    | _ => none
section
variable {H : Type} {enc : TypeId × Value → H} {P : Program} {w : World} {base : Nat} {held : Bool}
theorem rd_row {g : TypeId → Option Sh} {m : Nat} {cs : List Value} (hg : ∀ t sh cs x, g t = some sh → DataW.trod enc P w base (fun _ => true) held m t cs = some x → Rd w sh cs) : ∀ (l : List Field) (off : Nat) (sh : Sh), shRow P g l off = some sh →
    cs.length = off + sumF P l → (∀ f ∈ l, ∃ x, DataW.trod enc P w base (fun _ => true) held m f.type ((cs.drop f.offset).take (P.cellsOf f.type)) = some x) → Rd w sh (cs.drop off)
  | [], off, sh, h, hl, _ => by
    simp only [shRow, Option.some.injEq] at h
    subst h
    simp only [Rd, List.drop_eq_nil_iff]
    simp only [sumF] at hl
    omega
  | f :: r, off, sh, h, hl, hx => by
    simp only [shRow] at h
    split at h
    · rename_i hoff
      split at h
      · rename_i a b ha hb
        injection h with h
        subst h
        simp only [sumF] at hl
        obtain ⟨x, hx0⟩ := hx f (List.mem_cons_self ..)
        rw [hoff] at hx0
        refine ⟨(cs.drop off).take (P.cellsOf f.type), (cs.drop off).drop (P.cellsOf f.type), (List.take_append_drop _ _).symm, ?_, hg _ _ _ _ ha hx0, ?_⟩
        · rw [List.length_take, List.length_drop]; omega
        · rw [List.drop_drop]
          exact rd_row hg r _ b hb (by omega) fun f' hf' => hx f' (List.mem_cons_of_mem _ hf')
      · cases h
    · cases h
theorem rd_rep {n : Nat} {s : Sh} : ∀ (k : Nat) (cs : List Value), cs.length = k * n → (∀ i, i < k → Rd w s ((cs.drop (i * n)).take n)) → Rd w (shRep n s k) cs
  | 0, cs, hl, _ => by
    show cs = []
    exact List.length_eq_zero_iff.1 (by omega)
  | k + 1, cs, hl, h => by
    have e : (k + 1) * n = k * n + n := Nat.succ_mul k n
    have h0 := h 0 (by omega)
    rw [Nat.zero_mul, List.drop_zero] at h0
    refine ⟨cs.take n, cs.drop n, (List.take_append_drop _ _).symm, by rw [List.length_take]; omega, h0, rd_rep k _ (by rw [List.length_drop]; omega) fun i hi => ?_⟩
    have := h (i + 1) (by omega)
    rwa [Nat.succ_mul, Nat.add_comm (i * n) n, ← List.drop_drop] at this
theorem rd_of_trod : ∀ (n : Nat) (m : Nat) (t : TypeId) (cs : List Value) (x : DataW H × List MemPlace) (sh : Sh), shOf P n t = some sh → DataW.trod enc P w base (fun _ => true) held m t cs = some x → Rd w sh cs
  | 0, _, _, _, _, _, h, _ => by cases h
  | n + 1, m, t, cs, x, sh, h, hx => by
    simp only [shOf] at h
    split at h
    · rename_i k hu
      injection h with h; subst h
      obtain ⟨z, h1, h2⟩ := DataW.trod_int hu hx
      exact ⟨z, h1, h2.2⟩
    · rename_i hu
      injection h with h; subst h
      obtain ⟨b, h1, _⟩ := DataW.trod_bool hu hx
      exact ⟨b, h1⟩
    · rename_i hu
      injection h with h; subst h
      obtain ⟨s, h1, h2⟩ := DataW.trod_string hu hx
      exact ⟨s, h1, h2.2⟩
    · rename_i e hu
      split at h
      · rename_i he
        split at h
        · rename_i hc
          injection h with h; subst h
          have hone : ∃ v, cs = [v] := by
            rcases open_slice hu hx with ⟨hcs, _⟩ | ⟨a, len, cap, m, k, D, Pl, hcs, _⟩
            · exact ⟨_, hcs⟩
            · exact ⟨_, hcs⟩
          obtain ⟨v, rfl⟩ := hone
          obtain ⟨A, n', c, l, rfl, hin⟩ := slice_of_read hu he hc hx
          exact ⟨A, n', c, l, rfl, hin⟩
        · cases h
      · split at h
        · rename_i s hs
          injection h with h; subst h
          rcases open_slice hu hx with ⟨hcs, _⟩ | ⟨a, len, cap, m', k, D, Pl, hcs, hb, hl, hm, hmm, _, hel⟩
          · exact ⟨none, 0, 0, hcs, Nat.le_refl _, Nat.zero_le _, fun i hi => absurd hi (Nat.not_lt_zero _)⟩
          · refine ⟨some a, len, cap, hcs, hl, hm, fun i hi => ?_⟩
            obtain ⟨cs', k1, k2⟩ := hel i (by rw [hmm]; simp; omega)
            obtain ⟨_, k5, k3⟩ := World.cells?_some k1
            exact ⟨a, cs', rfl, k5, fun j v hv => (k3 j (by rw [← k5]; exact (List.getElem?_eq_some_iff.1 hv).1)).trans hv, rd_of_trod n k e cs' _ s hs k2⟩
        · cases h
    · rename_i fs hu
      split at h
      · rename_i hc
        obtain ⟨xs, n', _, rfl, hl, hlen, hf⟩ := DataW.trod_struct hu hx
        have := rd_row (w := w) (base := base) (held := held) (enc := enc) (cs := cs) (fun t' sh' cs' x' h1 h2 => rd_of_trod n n' t' cs' x' sh' h1 h2) fs.toList 0 sh h (by omega) (fun f hf' => by
          obtain ⟨i, hi⟩ := List.mem_iff_getElem?.1 hf'
          have h3 := hf i f (by simpa using hi)
          have h4 : i < xs.length := by rw [hlen]; exact (Array.getElem?_eq_some_iff.1 (show fs[i]? = some f by simpa using hi)).1
          rw [List.getElem?_eq_getElem h4] at h3
          exact ⟨_, h3⟩)
        exact this
      · cases h
    · rename_i m' e hu
      split at h
      · rename_i hc
        split at h
        · rename_i s hs
          injection h with h; subst h
          obtain ⟨xs, k, _, _, hl, hlen, hf⟩ := DataW.trod_array hu hx
          refine rd_rep m' cs (by rw [hl, hc]) fun i hi => ?_
          have h3 := hf i hi
          obtain ⟨y, hy⟩ : ∃ y, xs[i]? = some y := ⟨_, List.getElem?_eq_getElem (by omega)⟩
          rw [hy] at h3
          exact rd_of_trod n k e _ y s hs h3
        · cases h
      · cases h
    · cases h
theorem rd_of_read {r : Reach} {b0 n : Nat} {t : TypeId} {sh : Sh} {v : Value} {d : DataW H} {p : List MemPlace} (hs : shOf P n t = some sh) (hr : (match P.underlying t with | some (.struct _) | some (.array _ _) => true | _ => false) = true)
    (hv : Value.okWide P w r b0 t v) (h : DataW.Trod enc P w base (fun _ => true) held t v d p) : ∃ cs : List Value, v = .agg cs.toArray ∧ Rd w sh cs := by
  obtain ⟨fuel, hf⟩ := h
  have h1 := rd_of_trod n fuel t _ _ sh hs hf
  unfold Value.okWide at hv
  split at hv
  · obtain ⟨cs, rfl, _⟩ := hv
    exact ⟨cs.toList, by simp, h1⟩
  · obtain ⟨cs, rfl, _⟩ := hv
    exact ⟨cs.toList, by simp, h1⟩
  · rename_i hn1 hn2
    split at hr
    · rename_i hu; exact absurd hu (hn1 _)
    · rename_i hu; exact absurd hu (hn2 _ _)
    · cases hr
end
section
variable {w : World} {cs : List Value} {n : Nat} {s r : Sh} {k : IntKind}
end
open Go.RowKit
def BytesAt (w : World) (A : Option Addr) (n : Nat) (bs : List UInt8) : Prop := bs.length = n ∧ ∀ (k : Nat) (b : UInt8), bs[k]? = some b → ∃ ad, A = some ad ∧ w.cell? (ad.add k) = some (.int .u8 b.toNat)
def bv (l : List UInt8) : List Value := l.map fun b => .int .u8 b.toNat
def cvS (src dst : TypeId) (x : Value) : Sem Next := convert src dst x >>= fun v => pure (.value v)
section
variable {P : Program} {w : World} {l : List UInt8} {t e src dst : TypeId}
end
def hexC (n : Nat) : UInt8 := UInt8.ofNat (if n < 10 then 48 + n else 87 + n)
def enc2 (b : UInt8) : List UInt8 := [hexC (b.toNat / 16), hexC (b.toNat % 16)]
section
variable {w : World} {A : Option Addr} {n c : Nat} {bs : List UInt8}
theorem make_nil {P : Program} {t e : TypeId} {B : Nat} (hl : litOf P t 0 #[] = some (e, #[])) (hB : B ≤ w.heap.size) : MakePost P w (litV 0) (fun g u => OwnR u B e 1 (some ⟨g, 0, none⟩) 0 0 []) (litS t 0 #[]) := by
  obtain ⟨x, w', h1, h2, h3⟩ := (make_lit hl).fresh (fun g => [g]) (fun g u hg b hb => by simp at hb; subst hb; exact ⟨_, _, _, hg⟩)
  exact ⟨x, w', h1, h2, fun w'' k1 k2 => by have := h3 w'' k1 k2; exact OwnR.lit this.1 rfl (Nat.le_trans hB (this.2 x (by simp))) (by decide)⟩
end
theorem str_eq (a b : List UInt8) : ((⟨a.toArray⟩ : ByteArray).toList == (⟨b.toArray⟩ : ByteArray).toList) = (a == b) := by rw [mk_toList, mk_toList]
section
variable {P : Program} {w : World} {a b : List UInt8} {t : TypeId} {x y : Operand}
theorem run_eqS {B : Bool} (h : (a == b) = B) : (opS .eql t x y (strOf a) (strOf b)).run P w = .ok (.value (.bool B)) w := by
  have h1 : eqGuard .eql t x y (strOf a) (strOf b) = pure () := rfl
  have h2 : binOp .eql t (strOf a) (strOf b) = pure (.bool ((⟨a.toArray⟩ : ByteArray).toList == (⟨b.toArray⟩ : ByteArray).toList)) := by simp [binOp, Op.stringOp, strOf]
  simp only [opS, h1, h2, Sem.run_bind, Sem.run_pure, Result.andThen_ok, str_eq, h]
theorem run_neS {B : Bool} (h : (!(a == b)) = B) : (opS .neq t x y (strOf a) (strOf b)).run P w = .ok (.value (.bool B)) w := by
  have h1 : eqGuard .neq t x y (strOf a) (strOf b) = pure () := rfl
  have h2 : binOp .neq t (strOf a) (strOf b) = pure (.bool !((⟨a.toArray⟩ : ByteArray).toList == (⟨b.toArray⟩ : ByteArray).toList)) := by simp [binOp, Op.stringOp, strOf]
  simp only [opS, h1, h2, Sem.run_bind, Sem.run_pure, Result.andThen_ok, str_eq, h]
end
section
variable {w : World} {l : List UInt8} {K : Nat}
theorem xparseInt_v {e v : Int} (he : piE l = e) (hv : piV l = v) (hL : l.length ≤ 9223372036854775807) : Calls Tryd.prog 24 #[strOf l] w (CallPost w (fun _ : Unit => .tuple #[.int .i64 v, .int .i64 e]) fun _ _ => True) := by subst he hv; exact xparseInt_m hL
end
section
variable {w : World} {l : List UInt8} {K : Nat} {a b : RV} {q p : Rat}
end
theorem parse_num {x : Int} (h : x.natAbs < pw 40) : parseIE (fmtI x) = 0 ∧ parseIV (fmtI x) = x := parse_fmtI (by have := decS_len (n := x.natAbs) (k := 40) (by decide) h; omega)
section
variable {w : World} {l : List UInt8} {K : Nat} {a b : RV} {q p : Rat}
def Done (w : World) (e : Ending) (w' : World) : Prop := e = .returned (.bool true) ∧ Below w.heap.size w w'
theorem law_done {e : Ending} {w' : World} (h : CallPost w (fun _ : Unit => .bool true) (fun _ _ => True) e w') : Done w e w' := ⟨h.choose_spec.1, h.choose_spec.2.1⟩
theorem wf64 {z : Int} (h : (Lit.int .i64 z).wf = true) : -9223372036854775808 ≤ z ∧ z ≤ 9223372036854775807 := i64_wf h
end
section
variable {w : World} {l : List UInt8} {K : Nat} {a b : RV} {q p : Rat}
theorem pw40 {n : Int} (h : -9223372036854775808 ≤ n ∧ n ≤ 9223372036854775807) : n.natAbs < pw 40 := Nat.lt_of_lt_of_le (show n.natAbs < pw 2 by rw [pw_two]; omega) (pw_le (by decide))
theorem pi_fmt {n : Int} (h : -9223372036854775808 ≤ n ∧ n ≤ 9223372036854775807) : piE (fmtI n) = 0 ∧ piV (fmtI n) = n := by
  obtain ⟨e, v⟩ := parse_num (pw40 h)
  obtain ⟨k1, k2, _⟩ := piE_good e (by rw [v]; exact decide_eq_true h)
  exact ⟨k1, by rw [k2, v]⟩
theorem fmt_pi (h : piE l = 0) : fmtI (piV l) = l ∧ -9223372036854775808 ≤ piV l ∧ piV l ≤ 9223372036854775807 := by
  have h1 : parseIE l = 0 := by
    rcases Classical.em (parseIE l = 0) with e | e
    · exact e
    · rw [(piE_bad e).1] at h; exact absurd h e
  cases hF : fitB (parseIV l)
  · rw [(piE_far h1 hF).1] at h; cases h
  · rw [(piE_good h1 hF).2.1]
    exact ⟨fmtI_parse h1, of_decide_eq_true hF⟩
end
open Go.RowKit
/-- The value of a digit, or -1. -/
def valH (b : UInt8) : Int := if 97 ≤ b.toNat ∧ b.toNat ≤ 102 then (b.toNat : Int) - 87 else if 48 ≤ b.toNat ∧ b.toNat ≤ 57 then (b.toNat : Int) - 48 else -1
section
variable {w : World}
theorem valH_hexC : ∀ k, k < 16 → valH (hexC k) = k := by decide +kernel
end
def byteH (a b : UInt8) : UInt8 := UInt8.ofNat (16 * (valH a).toNat + (valH b).toNat)
theorem valH_rng (b : UInt8) : -1 ≤ valH b ∧ valH b ≤ 15 := by
  unfold valH
  split
  · omega
  · split
    · omega
    · omega
section
variable {w : World} {l : List UInt8}
end
section
variable {w : World} {l : List UInt8}
end
theorem hexC_valH (b : UInt8) (h : ¬ valH b < 0) : hexC (valH b).toNat = b := by
  have key : ∀ n : Fin 256, ¬ valH (UInt8.ofNat n.val) < 0 → hexC (valH (UInt8.ofNat n.val)).toNat = UInt8.ofNat n.val := by decide +kernel
  have := key ⟨b.toNat, by have := b.toNat_lt; omega⟩
  simp only [UInt8.ofNat_toNat] at this
  exact this h
theorem enc2_ofNat {x y : Nat} (hx : x < 16) (hy : y < 16) : enc2 (UInt8.ofNat (16 * x + y)) = [hexC x, hexC y] := by
  have key : ∀ a b : Fin 16, enc2 (UInt8.ofNat (16 * a.val + b.val)) = [hexC a.val, hexC b.val] := by decide +kernel
  exact key ⟨x, hx⟩ ⟨y, hy⟩
theorem byteH_enc (b : UInt8) : byteH (hexC (b.toNat / 16)) (hexC (b.toNat % 16)) = b := by
  have key : ∀ n : Fin 256, byteH (hexC (n.val / 16)) (hexC (n.val % 16)) = UInt8.ofNat n.val := by decide +kernel
  have := key ⟨b.toNat, by have := b.toNat_lt; omega⟩
  simp only [UInt8.ofNat_toNat] at this
  exact this
theorem BytesAt.below {w w1 : World} {A : Option Addr} {n : Nat} {bs : List UInt8} (h : BytesAt w A n bs) (hw : Below w.heap.size w w1) : BytesAt w1 A n bs :=
  ⟨h.1, fun k b hk => by obtain ⟨ad, h1, h2⟩ := h.2 k b hk; exact ⟨ad, h1, keepc hw h2⟩⟩
theorem OwnR.bytes {w : World} {A : Option Addr} {B c : Nat} {e : TypeId} {l : List UInt8} (h : OwnR w B e 1 A l.length c (bv l)) : BytesAt w A l.length l := by
  refine ⟨rfl, fun k b hk => ?_⟩
  have hj := (List.getElem?_eq_some_iff.1 hk).1
  obtain ⟨g, hg, hc⟩ := h.cells (by omega)
  have := hc k (.int .u8 (b.toNat : Nat)) (by simp [bv, hk])
  exact ⟨_, hg, by rw [Addr.add_mid, Nat.zero_add]; exact this⟩
section
variable {w : World} {A : Option Addr} {n c : Nat} {bs l p : List UInt8}
end
open Go.RowKit
section
variable {a b : SV} {x y : Int} {K K1 K2 : Nat} {w : World}
end
def pt (a b : Int) : Value := .agg #[.int .i64 a, .int .i64 b]
def eqP (t : TypeId) (x y : Operand) (u v : Value) : Sem Next := (do eqGuard .eql t x y u v; binOp .eql t u v) >>= fun v => pure (.value v)
theorem run_eqP {x y : Operand} {a b c d : Int} {w : World} : (eqP 39 x y (pt a b) (pt c d)).run Tryd.prog w = .ok (.value (.bool (a == c && b == d))) w := by
  have h1 : Tryd.prog.underlying 39 = some (.struct (Tryd.prog.fieldsOf 39)) := by kernel_rfl
  have h2 : Tryd.prog.stoodInHeld 39 = false := by kernel_rfl
  have h3 : Tryd.prog.eqGuardType Tryd.prog.depth 39 = false := by kernel_rfl
  have hm : (Tryd.prog.fieldsOf 39).toList.map (fun f => (f.name, f.offset, f.type)) = [("X", 0, 3), ("Y", 1, 3)] := by kernel_rfl
  have hu : Tryd.prog.underlying 3 = some (.int .i64) := by kernel_rfl
  have hz : sizeT Tryd.prog 3 = some 1 := by kernel_rfl
  have hr : isRowT Tryd.prog 3 = some false := by kernel_rfl
  obtain ⟨f0, r0, hf, k0, hm⟩ := List.map_eq_cons_iff.1 hm
  obtain ⟨f1, r1, hf1, k1, hm⟩ := List.map_eq_cons_iff.1 hm
  obtain rfl : r1 = [] := List.map_eq_nil_iff.1 hm
  subst hf1
  simp only [Prod.mk.injEq] at k0 k1
  obtain ⟨n0, o0, t0⟩ := k0
  obtain ⟨n1, o1, t1⟩ := k1
  have hp : ∀ (xs : Array Value) (off : Nat) (v : Value), xs[off]? = some v → (part 3 xs off).run Tryd.prog w = .ok v w := by
    intro xs off v hv
    have hag : (isAgg 3).run Tryd.prog w = .ok false w := by unfold isAgg; rw [Sem.run_bind, run_underlying hu w]; rfl
    simp only [part, Sem.run_bind, hag, Result.andThen_ok, Bool.false_eq_true, if_false, hv, Sem.run_pure]
  have e0 : ∀ a b : Int, (Op.equalIn 9999 3 (.int .i64 a) (.int .i64 b)).run Tryd.prog w = .ok (a == b) w := fun a b => run_equalIn_int w 9998 _ .i64 .i64 a b hu
  have p0 : (part 3 #[.int .i64 a, .int .i64 b] 0).run Tryd.prog w = .ok (.int .i64 a) w := hp _ 0 _ rfl
  have p1 : (part 3 #[.int .i64 a, .int .i64 b] 1).run Tryd.prog w = .ok (.int .i64 b) w := hp _ 1 _ rfl
  have q0 : (part 3 #[.int .i64 c, .int .i64 d] 0).run Tryd.prog w = .ok (.int .i64 c) w := hp _ 0 _ rfl
  have q1 : (part 3 #[.int .i64 c, .int .i64 d] 1).run Tryd.prog w = .ok (.int .i64 d) w := hp _ 1 _ rfl
  have hfld : (Op.eqFields 9999 #[.int .i64 a, .int .i64 b] #[.int .i64 c, .int .i64 d] [f0, f1]).run Tryd.prog w = .ok (a == c && b == d) w := by
    have x0 : ("X" : String) ≠ "_" := by decide
    have x1 : ("Y" : String) ≠ "_" := by decide
    simp only [Op.eqFields, n0, n1, o0, o1, t0, t1, Sem.run_bind, p0, q0, p1, q1, Result.andThen_ok, e0, x0, x1, ne_eq, not_false_eq_true, if_true]
    cases h : a == c
    · simp [e0, h]
    · cases h' : b == d <;> simp [e0, h, p1, q1, h']
  have hq : (Op.equalIn 10000 39 (pt a b) (pt c d)).run Tryd.prog w = .ok (a == c && b == d) w := by
    rw [pt, pt, run_equalIn_struct w 9999 _ _ _ h1 h2, hf]; exact hfld
  simp only [eqP, pt, Sem.run_bind, run_eqGuard_agg w .eql _ x y _ _ h3, Result.andThen_ok, run_eql_struct, Sem.run_pure]
  rw [pt, pt] at hq
  rw [hq]
  rfl
def validP (X Y : Int) : Bool := decide ((-1048576 ≤ X ∧ X ≤ 1048576) ∧ (-1048576 ≤ Y ∧ Y ≤ 1048576))
section
variable {p q : Rat} {K1 K2 : Nat} {w : World} {X Y : Int}
set_option maxRecDepth 100000 in
set_option maxHeartbeats 1000000 in
theorem rvalid_m : Calls Tryd.prog 67 #[pt X Y] w (CallPost w (fun _ : Unit => .bool (validP X Y)) fun _ _ => True) := by
  by_cases h0 : X ≥ -1048576
  case neg =>
    refine Good.enter Tryd.func67 rfl ?_
    refine Good.run (by kernel_rfl) (stop := 3) 1000 _ ?_
    refine Good.slot 5 (.bool (decide (X ≥ -1048576))) (.bool false) (by kernel_rfl) (by rw [decide_eq_false (by omega)]) ?_
    refine Good.run (by kernel_rfl) (stop := 1000) 1000 _ ?_
    refine Good.ret (v := .bool false) (by kernel_rfl) (fun w1 hw h => ⟨(), by unfold validP; rw [decide_eq_false (by omega)], hw, fun _ _ _ => trivial⟩)
  by_cases h1 : X ≤ 1048576
  case neg =>
    refine Good.enter Tryd.func67 rfl ?_
    refine Good.run (by kernel_rfl) (stop := 3) 1000 _ ?_
    refine Good.slot 5 (.bool (decide (X ≥ -1048576))) (.bool true) (by kernel_rfl) (by rw [decide_eq_true (by omega)]) ?_
    refine Good.run (by kernel_rfl) (stop := 7) 1000 _ ?_
    refine Good.slot 9 (.bool (decide (X ≤ 1048576))) (.bool false) (by kernel_rfl) (by rw [decide_eq_false (by omega)]) ?_
    refine Good.run (by kernel_rfl) (stop := 1000) 1000 _ ?_
    refine Good.ret (v := .bool false) (by kernel_rfl) (fun w1 hw h => ⟨(), by unfold validP; rw [decide_eq_false (by omega)], hw, fun _ _ _ => trivial⟩)
  by_cases h2 : Y ≥ -1048576
  case neg =>
    refine Good.enter Tryd.func67 rfl ?_
    refine Good.run (by kernel_rfl) (stop := 3) 1000 _ ?_
    refine Good.slot 5 (.bool (decide (X ≥ -1048576))) (.bool true) (by kernel_rfl) (by rw [decide_eq_true (by omega)]) ?_
    refine Good.run (by kernel_rfl) (stop := 7) 1000 _ ?_
    refine Good.slot 9 (.bool (decide (X ≤ 1048576))) (.bool true) (by kernel_rfl) (by rw [decide_eq_true (by omega)]) ?_
    refine Good.run (by kernel_rfl) (stop := 12) 1000 _ ?_
    refine Good.slot 14 (.bool (decide (Y ≥ -1048576))) (.bool false) (by kernel_rfl) (by rw [decide_eq_false (by omega)]) ?_
    refine Good.run (by kernel_rfl) (stop := 1000) 1000 _ ?_
    refine Good.ret (v := .bool false) (by kernel_rfl) (fun w1 hw h => ⟨(), by unfold validP; rw [decide_eq_false (by omega)], hw, fun _ _ _ => trivial⟩)
  by_cases h3 : Y ≤ 1048576
  case neg =>
    refine Good.enter Tryd.func67 rfl ?_
    refine Good.run (by kernel_rfl) (stop := 3) 1000 _ ?_
    refine Good.slot 5 (.bool (decide (X ≥ -1048576))) (.bool true) (by kernel_rfl) (by rw [decide_eq_true (by omega)]) ?_
    refine Good.run (by kernel_rfl) (stop := 7) 1000 _ ?_
    refine Good.slot 9 (.bool (decide (X ≤ 1048576))) (.bool true) (by kernel_rfl) (by rw [decide_eq_true (by omega)]) ?_
    refine Good.run (by kernel_rfl) (stop := 12) 1000 _ ?_
    refine Good.slot 14 (.bool (decide (Y ≥ -1048576))) (.bool true) (by kernel_rfl) (by rw [decide_eq_true (by omega)]) ?_
    refine Good.run (by kernel_rfl) (stop := 17) 1000 _ ?_
    refine Good.slot 19 (.bool (decide (Y ≤ 1048576))) (.bool false) (by kernel_rfl) (by rw [decide_eq_false (by omega)]) ?_
    refine Good.run (by kernel_rfl) (stop := 1000) 1000 _ ?_
    refine Good.ret (v := .bool false) (by kernel_rfl) (fun w1 hw h => ⟨(), by unfold validP; rw [decide_eq_false (by omega)], hw, fun _ _ _ => trivial⟩)
  refine Good.enter Tryd.func67 rfl ?_
  refine Good.run (by kernel_rfl) (stop := 3) 1000 _ ?_
  refine Good.slot 5 (.bool (decide (X ≥ -1048576))) (.bool true) (by kernel_rfl) (by rw [decide_eq_true (by omega)]) ?_
  refine Good.run (by kernel_rfl) (stop := 7) 1000 _ ?_
  refine Good.slot 9 (.bool (decide (X ≤ 1048576))) (.bool true) (by kernel_rfl) (by rw [decide_eq_true (by omega)]) ?_
  refine Good.run (by kernel_rfl) (stop := 12) 1000 _ ?_
  refine Good.slot 14 (.bool (decide (Y ≥ -1048576))) (.bool true) (by kernel_rfl) (by rw [decide_eq_true (by omega)]) ?_
  refine Good.run (by kernel_rfl) (stop := 17) 1000 _ ?_
  refine Good.slot 19 (.bool (decide (Y ≤ 1048576))) (.bool true) (by kernel_rfl) (by rw [decide_eq_true (by omega)]) ?_
  refine Good.run (by kernel_rfl) (stop := 1000) 1000 _ ?_
  refine Good.ret (v := .bool true) (by kernel_rfl) (fun w1 hw h => ⟨(), by unfold validP; rw [decide_eq_true (by omega)], hw, fun _ _ _ => trivial⟩)
end
open Go.RowKit
def clampP (x : Int) : Int := if x < -1048576 then -1048576 else if 1048576 < x then 1048576 else x
section
variable {w : World} {X Y U V x : Int}
set_option maxRecDepth 100000 in
set_option maxHeartbeats 1000000 in
theorem iclampP_m : Calls Tryd.prog 98 #[.int .i64 x, .int .i64 (-1048576), .int .i64 1048576] w (CallPost w (fun _ : Unit => .int .i64 (clampP x)) fun _ _ => True) := by
  by_cases h1 : x < -1048576
  ·
    refine Good.enter Tryd.func98 rfl ?_
    refine Good.run (by kernel_rfl) (stop := 1000) 1000 _ ?_
    refine Good.condr (decide (x < -1048576)) true (by kernel_rfl) (by simpa using h1) ?_
    refine Good.run (by kernel_rfl) (stop := 1000) 1000 _ ?_
    refine Good.ret (v := .int .i64 (-1048576)) (by kernel_rfl) (fun w1 hw h => ⟨(), by unfold clampP; rw [if_pos h1], hw, fun _ _ _ => trivial⟩)
  · by_cases h2 : 1048576 < x
    ·
      refine Good.enter Tryd.func98 rfl ?_
      refine Good.run (by kernel_rfl) (stop := 1000) 1000 _ ?_
      refine Good.condr (decide (x < -1048576)) false (by kernel_rfl) (by simpa using h1) ?_
      refine Good.run (by kernel_rfl) (stop := 1000) 1000 _ ?_
      refine Good.condr (decide (x > 1048576)) true (by kernel_rfl) (by simpa using h2) ?_
      refine Good.run (by kernel_rfl) (stop := 1000) 1000 _ ?_
      refine Good.ret (v := .int .i64 1048576) (by kernel_rfl) (fun w1 hw h => ⟨(), by unfold clampP; rw [if_neg h1, if_pos h2], hw, fun _ _ _ => trivial⟩)
    ·
      refine Good.enter Tryd.func98 rfl ?_
      refine Good.run (by kernel_rfl) (stop := 1000) 1000 _ ?_
      refine Good.condr (decide (x < -1048576)) false (by kernel_rfl) (by simpa using h1) ?_
      refine Good.run (by kernel_rfl) (stop := 1000) 1000 _ ?_
      refine Good.condr (decide (x > 1048576)) false (by kernel_rfl) (by simpa using h2) ?_
      refine Good.run (by kernel_rfl) (stop := 1000) 1000 _ ?_
      refine Good.ret (v := .int .i64 x) (by kernel_rfl) (fun w1 hw h => ⟨(), by unfold clampP; rw [if_neg h1, if_neg h2], hw, fun _ _ _ => trivial⟩)
set_option maxRecDepth 100000 in
set_option maxHeartbeats 1000000 in
theorem held_m : Calls Tryd.prog 95 #[.int .i64 x] w (CallPost w (fun _ : Unit => .int .i64 (clampP x)) fun _ _ => True) := by
  refine Good.enter Tryd.func95 rfl ?_
  refine Good.run (by kernel_rfl) (stop := 1000) 1000 _ ?_
  refine Good.callv (fun w1 hw h => iclampP_m (x := x)) (by kernel_rfl) (fun u => ?_)
  refine Good.run (by kernel_rfl) (stop := 1000) 1000 _ ?_
  refine Good.ret (v := .int .i64 (clampP x)) (by kernel_rfl) (fun w1 hw h => ⟨(), rfl, hw, fun _ _ _ => trivial⟩)
set_option maxRecDepth 100000 in
set_option maxHeartbeats 1000000 in
theorem hold_m : Calls Tryd.prog 87 #[pt X Y] w (CallPost w (fun _ : Unit => pt (clampP X) (clampP Y)) fun _ _ => True) := by
  refine Good.enter Tryd.func87 rfl ?_
  refine Good.run (by kernel_rfl) (stop := 1000) 1000 _ ?_
  refine Good.callv (fun w1 hw h => held_m (x := X)) (by kernel_rfl) (fun u => ?_)
  refine Good.run (by kernel_rfl) (stop := 1000) 1000 _ ?_
  refine Good.callv (fun w1 hw h => held_m (x := Y)) (by kernel_rfl) (fun v => ?_)
  refine Good.run (by kernel_rfl) (stop := 1000) 1000 _ ?_
  refine Good.ret (v := pt (clampP X) (clampP Y)) (by kernel_rfl) (fun w1 hw h => ⟨(), rfl, hw, fun _ _ _ => trivial⟩)
theorem clampP_eq (x : Int) : (clampP x == x) = decide (-1048576 ≤ x ∧ x ≤ 1048576) := by
  unfold clampP
  split
  · rw [decide_eq_false (by omega)]; simp; omega
  · split
    · rw [decide_eq_false (by omega)]; simp; omega
    · rw [decide_eq_true (by omega)]; simp
theorem validP_eq (X Y : Int) : (clampP X == X && clampP Y == Y) = validP X Y := by
  rw [clampP_eq, clampP_eq]; unfold validP; simp
set_option maxRecDepth 100000 in
set_option maxHeartbeats 1000000 in
theorem valid_m : Calls Tryd.prog 61 #[pt X Y] w (CallPost w (fun _ : Unit => .bool (validP X Y)) fun _ _ => True) := by
  refine Good.enter Tryd.func61 rfl ?_
  refine Good.run (by kernel_rfl) (stop := 1000) 1000 _ ?_
  refine Good.callv (fun w1 hw h => hold_m (X := X) (Y := Y)) (by kernel_rfl) (fun u => ?_)
  refine Good.run (by kernel_rfl) (stop := 3) 1000 _ ?_
  refine Good.askAt 3 (eqP 39 (.tmp 4) (.tmp 5) (pt (clampP X) (clampP Y)) (pt X Y)) (.bool (clampP X == X && clampP Y == Y)) (by kernel_rfl) (fun w1 hw h => run_eqP) ?_
  refine Good.run (by kernel_rfl) (stop := 1000) 1000 _ ?_
  refine Good.ret (v := .bool (clampP X == X && clampP Y == Y)) (by kernel_rfl) (fun w1 hw h => ⟨(), by rw [validP_eq], hw, fun _ _ _ => trivial⟩)
end
open Go.RowKit
def plainB (c : UInt8) : Bool := (decide (97 ≤ c.toNat) && decide (c.toNat ≤ 122)) || (decide (65 ≤ c.toNat) && decide (c.toNat ≤ 90)) || (decide (48 ≤ c.toNat) && decide (c.toNat ≤ 57)) || [46, 95, 58, 47, 43, 45, 44, 61, 35].contains c.toNat
def q1 (c : UInt8) : List UInt8 := if plainB c then [c] else 42 :: enc2 c
def quoL (l : List UInt8) : List UInt8 := if l = [] then [42] else l.flatMap q1
def unqS : List UInt8 → Option (List UInt8)
  | [] => some []
  | c :: l => if plainB c then (unqS l).map (c :: ·) else if c = 42 then (match l with
    | a :: b :: r => if valH a < 0 ∨ valH b < 0 ∨ plainB (byteH a b) = true then none else (unqS r).map (byteH a b :: ·)
    | _ => none) else none
termination_by l => l.length
def refS : List UInt8 → Option (List UInt8)
  | [] => some []
  | c :: l => if c = 42 then (match l with
    | a :: b :: r => if valH a < 0 ∨ valH b < 0 then none else (refS r).map (byteH a b :: ·)
    | _ => none) else (refS l).map (c :: ·)
termination_by l => l.length
def unqL (w : List UInt8) : Option (List UInt8) := if w = [42] then some [] else match unqS w with
  | some b => if b = [] then none else some b
  | none => none
theorem q1_plain {c : UInt8} (h : plainB c = true) : q1 c = [c] := if_pos h
theorem q1_not {c : UInt8} (h : plainB c = false) : q1 c = 42 :: enc2 c := if_neg (by rw [h]; decide)
theorem plain_mark : plainB 42 = false := by decide +kernel
theorem hex_lt (b : UInt8) : b.toNat / 16 < 16 ∧ b.toNat % 16 < 16 := by have := b.toNat_lt; omega
theorem unqS_plain {c : UInt8} {l : List UInt8} (h : plainB c = true) : unqS (c :: l) = (unqS l).map (c :: ·) := by rw [unqS.eq_def]; exact if_pos h
theorem unqS_mark {a b : UInt8} {r : List UInt8} : unqS (42 :: a :: b :: r) = if valH a < 0 ∨ valH b < 0 ∨ plainB (byteH a b) = true then none else (unqS r).map (byteH a b :: ·) := by
  rw [unqS.eq_def]
  show (if plainB 42 = true then _ else if (42 : UInt8) = 42 then _ else _) = _
  rw [if_neg (by rw [plain_mark]; decide), if_pos rfl]
theorem unqS_short {l : List UInt8} (h : l.length < 2) : unqS (42 :: l) = none := by
  rw [unqS.eq_def]
  show (if plainB 42 = true then _ else if (42 : UInt8) = 42 then _ else _) = _
  rw [if_neg (by rw [plain_mark]; decide), if_pos rfl]
  match l, h with
  | [], _ => rfl
  | [_], _ => rfl
  | _ :: _ :: _, h => simp at h; omega
theorem unqS_bad {c : UInt8} {l : List UInt8} (h : plainB c = false) (h2 : c ≠ 42) : unqS (c :: l) = none := by
  rw [unqS.eq_def]
  show (if plainB c = true then _ else if c = 42 then _ else _) = _
  rw [if_neg (by rw [h]; decide), if_neg h2]
theorem refS_plain {c : UInt8} {l : List UInt8} (h : c ≠ 42) : refS (c :: l) = (refS l).map (c :: ·) := by rw [refS.eq_def]; exact if_neg h
theorem refS_mark {a b : UInt8} {r : List UInt8} : refS (42 :: a :: b :: r) = if valH a < 0 ∨ valH b < 0 then none else (refS r).map (byteH a b :: ·) := by
  rw [refS.eq_def]
  show (if (42 : UInt8) = 42 then _ else _) = _
  rw [if_pos rfl]
theorem refS_short {l : List UInt8} (h : l.length < 2) : refS (42 :: l) = none := by
  rw [refS.eq_def]
  show (if (42 : UInt8) = 42 then _ else _) = _
  rw [if_pos rfl]
  match l, h with
  | [], _ => rfl
  | [_], _ => rfl
  | _ :: _ :: _, h => simp at h; omega
theorem unqS_quo : ∀ l : List UInt8, unqS (l.flatMap q1) = some l
  | [] => by rw [List.flatMap_nil, unqS]
  | c :: l => by
    rw [List.flatMap_cons]
    cases hp : plainB c
    · rw [q1_not hp]
      show unqS (42 :: hexC (c.toNat / 16) :: hexC (c.toNat % 16) :: l.flatMap q1) = _
      rw [unqS_mark, byteH_enc, valH_hexC _ (hex_lt c).1, valH_hexC _ (hex_lt c).2, hp, if_neg (by simp; omega), unqS_quo l]
      rfl
    · rw [q1_plain hp]
      show unqS (c :: l.flatMap q1) = _
      rw [unqS_plain hp, unqS_quo l]
      rfl
theorem refS_quo : ∀ l : List UInt8, refS (l.flatMap q1) = some l
  | [] => by rw [List.flatMap_nil, refS]
  | c :: l => by
    rw [List.flatMap_cons]
    cases hp : plainB c
    · rw [q1_not hp]
      show refS (42 :: hexC (c.toNat / 16) :: hexC (c.toNat % 16) :: l.flatMap q1) = _
      rw [refS_mark, byteH_enc, valH_hexC _ (hex_lt c).1, valH_hexC _ (hex_lt c).2, if_neg (by omega), refS_quo l]
      rfl
    · rw [q1_plain hp]
      show refS (c :: l.flatMap q1) = _
      rw [refS_plain (by rintro rfl; rw [plain_mark] at hp; cases hp), refS_quo l]
      rfl
theorem enc2_byteH {a b : UInt8} (ha : ¬ valH a < 0) (hb : ¬ valH b < 0) : enc2 (byteH a b) = [a, b] := by
  have ra := (valH_rng a).2
  have rb := (valH_rng b).2
  rw [byteH, enc2_ofNat (by omega) (by omega), hexC_valH a ha, hexC_valH b hb]
theorem quo_unqS : ∀ (n : Nat) {w p : List UInt8}, w.length ≤ n → unqS w = some p → p.flatMap q1 = w
  | _, [], p, _, h => by rw [unqS] at h; cases h; rfl
  | 0, _ :: _, _, hn, _ => by simp at hn
  | n + 1, c :: l, p, hn, h => by
    simp only [List.length_cons] at hn
    cases hp : plainB c
    · by_cases hc : c = 42
      · subst hc
        match l, hn, h with
        | [], _, h => rw [unqS_short (by simp)] at h; cases h
        | [_], _, h => rw [unqS_short (by simp)] at h; cases h
        | a :: b :: r, hn, h =>
          rw [unqS_mark] at h
          split at h
          · cases h
          · rename_i hv
            cases hr : unqS r with
            | none => rw [hr] at h; cases h
            | some q =>
              rw [hr] at h
              cases h
              have h3 : plainB (byteH a b) = false := by
                cases h4 : plainB (byteH a b)
                · rfl
                · exact absurd (.inr (.inr h4)) hv
              simp only [List.length_cons] at hn
              rw [List.flatMap_cons, quo_unqS n (by omega) hr, q1_not h3, enc2_byteH (fun k => hv (.inl k)) (fun k => hv (.inr (.inl k)))]
              rfl
      · rw [unqS_bad hp hc] at h; cases h
    · rw [unqS_plain hp] at h
      cases hr : unqS l with
      | none => rw [hr] at h; cases h
      | some q =>
        rw [hr] at h
        cases h
        rw [List.flatMap_cons, quo_unqS n (by omega) hr, q1_plain hp]
        rfl
theorem unq_quo (l : List UInt8) : unqL (quoL l) = some l := by
  unfold quoL
  split
  · rename_i h; subst h; exact if_pos rfl
  · rename_i h
    unfold unqL
    rw [if_neg ?_, unqS_quo]
    · exact if_neg h
    · intro e
      have := unqS_quo l
      rw [e, unqS_short (by simp)] at this
      cases this
theorem quo_unq {w p : List UInt8} (h : unqL w = some p) : quoL p = w := by
  unfold unqL at h
  split at h
  · rename_i hw; subst hw; cases h; rfl
  · split at h
    · rename_i b hb
      split at h
      · cases h
      · rename_i h0
        cases h
        unfold quoL
        rw [if_neg h0]
        exact quo_unqS _ (Nat.le_refl _) hb
    · cases h
theorem refL_eq (w : List UInt8) : (if w = [42] then some [] else match refS w with
    | some b => if b = [] ∨ quoL b ≠ w then none else some b
    | none => none) = unqL w := by
  by_cases hw : w = [42]
  · rw [if_pos hw]; unfold unqL; rw [if_pos hw]
  rw [if_neg hw]
  cases hu : unqL w with
  | some p =>
    have hq := quo_unq hu
    have h0 : p ≠ [] := by
      rintro rfl
      exact hw hq.symm
    have : refS w = some p := by
      rw [← hq, quoL, if_neg h0]
      exact refS_quo p
    rw [this]
    exact if_neg fun k => k.elim h0 fun k => k hq
  | none =>
    cases hr : refS w with
    | none => rfl
    | some b =>
      show (if b = [] ∨ quoL b ≠ w then none else some b) = none
      split
      · rfl
      · rename_i hb
        have h1 : quoL b = w := Classical.byContradiction fun k => hb (.inr k)
        rw [← h1, unq_quo] at hu
        cases hu
theorem q1_len (c : UInt8) : 1 ≤ (q1 c).length ∧ (q1 c).length ≤ 3 := by
  unfold q1; split <;> simp [enc2]
theorem flat_len (l : List UInt8) : l.length ≤ (l.flatMap q1).length ∧ (l.flatMap q1).length ≤ 3 * l.length := by
  induction l with
  | nil => simp
  | cons c l ih =>
    have := q1_len c
    simp only [List.flatMap_cons, List.length_append, List.length_cons]
    omega
theorem quo_len (l : List UInt8) : 1 ≤ (quoL l).length ∧ (quoL l).length ≤ 3 * l.length + 1 := by
  unfold quoL
  split
  · simp
  · rename_i h
    have := flat_len l
    have : 0 < l.length := List.length_pos_iff.2 h
    omega
theorem quo_inj {s t : List UInt8} (h : quoL s = quoL t) : s = t := by
  have := unq_quo s
  rw [h, unq_quo] at this
  cases this; rfl
theorem quo_ne (l : List UInt8) : quoL l ≠ [] := fun h => by have := (quo_len l).1; rw [h] at this; simp at this
theorem q1_mem {c b : UInt8} (h : b ∈ q1 c) : plainB b = true ∨ b = 42 := by
  have key : ∀ n : Fin 256, (q1 (UInt8.ofNat n.val)).all (fun b => plainB b || b == 42) = true := by decide +kernel
  have := key ⟨c.toNat, by have := c.toNat_lt; omega⟩
  simp only [UInt8.ofNat_toNat, List.all_eq_true, Bool.or_eq_true, beq_iff_eq] at this
  exact this b h
theorem quo_mem {l : List UInt8} {b : UInt8} (h : b ∈ quoL l) : plainB b = true ∨ b = 42 := by
  unfold quoL at h
  split at h
  · right; simpa using h
  · obtain ⟨c, _, hc⟩ := List.mem_flatMap.1 h
    exact q1_mem hc
theorem quo_blank {l : List UInt8} : (32 : UInt8) ∉ quoL l := fun h => (quo_mem h).elim (fun k => absurd k (by decide +kernel)) (fun k => absurd k (by decide))
def splitBy (c : UInt8) : List UInt8 → List (List UInt8)
  | [] => [[]]
  | b :: l => if b = c then [] :: splitBy c l else match splitBy c l with
    | [] => [[b]]
    | h :: t => (b :: h) :: t
def joinBy (c : UInt8) : List (List UInt8) → List UInt8
  | [] => []
  | [x] => x
  | x :: l => x ++ c :: joinBy c l
theorem splitBy_ne (c : UInt8) (l : List UInt8) : splitBy c l ≠ [] := by
  cases l with
  | nil => simp [splitBy]
  | cons b l =>
    unfold splitBy
    split
    · simp
    · split <;> simp
theorem splitBy_eq {c : UInt8} {l : List UInt8} : splitBy c (c :: l) = [] :: splitBy c l := by rw [splitBy, if_pos rfl]
theorem splitBy_app {c : UInt8} : ∀ {x : List UInt8} (l : List UInt8), c ∉ x → splitBy c (x ++ c :: l) = x :: splitBy c l
  | [], l, _ => splitBy_eq
  | b :: x, l, h => by
    have hb : b ≠ c := fun e => h (by simp [e])
    show splitBy c (b :: (x ++ c :: l)) = _
    rw [splitBy, if_neg hb, splitBy_app l fun k => h (by simp [k])]
theorem splitBy_one {c : UInt8} : ∀ {x : List UInt8}, c ∉ x → splitBy c x = [x]
  | [], _ => rfl
  | b :: x, h => by
    have hb : b ≠ c := fun e => h (by simp [e])
    rw [splitBy, if_neg hb, splitBy_one fun k => h (by simp [k])]
theorem split_join {c : UInt8} : ∀ {l : List (List UInt8)}, l ≠ [] → (∀ x ∈ l, c ∉ x) → splitBy c (joinBy c l) = l
  | [], h, _ => absurd rfl h
  | [x], _, h => splitBy_one (h x (by simp))
  | x :: y :: l, _, h => by
    show splitBy c (x ++ c :: joinBy c (y :: l)) = _
    rw [splitBy_app _ (h x (by simp)), split_join (by simp) fun z hz => h z (by simp [hz])]
theorem join_split (c : UInt8) : ∀ l : List UInt8, joinBy c (splitBy c l) = l
  | [] => rfl
  | b :: l => by
    have ih := join_split c l
    rw [splitBy]
    have hne := splitBy_ne c l
    split
    · rename_i hb
      subst hb
      cases hs : splitBy b l with
      | nil => exact absurd hs hne
      | cons h t =>
        rw [hs] at ih
        show [] ++ b :: joinBy b (h :: t) = _
        rw [ih]; rfl
    · cases hs : splitBy c l with
      | nil => exact absurd hs hne
      | cons h t =>
        rw [hs] at ih
        cases t with
        | nil =>
          show b :: h = _
          have : h = l := ih
          rw [this]
        | cons y t =>
          show (b :: h) ++ c :: joinBy c (y :: t) = _
          have : h ++ c :: joinBy c (y :: t) = l := ih
          rw [List.cons_append, this]
/-- The strings that words stand for, up to the first that stands for none. -/
def unqAll : List (List UInt8) → List (List UInt8)
  | [] => []
  | w :: l => match unqL w with
    | some p => p :: unqAll l
    | none => []
/-- All words stand for strings. -/
def allW (l : List (List UInt8)) : Bool := l.all fun w => (unqL w).isSome
theorem unqAll_len : ∀ l : List (List UInt8), (unqAll l).length ≤ l.length
  | [] => Nat.le_refl _
  | w :: l => by
    unfold unqAll
    have := unqAll_len l
    split <;> simp <;> omega
theorem unqAll_quo : ∀ l : List (List UInt8), unqAll (l.map quoL) = l ∧ allW (l.map quoL) = true
  | [] => ⟨rfl, rfl⟩
  | x :: l => by
    have ih := unqAll_quo l
    constructor
    · rw [List.map_cons, unqAll, unq_quo]
      show x :: unqAll (l.map quoL) = _
      rw [ih.1]
    · simp only [allW, List.map_cons, List.all_cons, unq_quo, Option.isSome_some, Bool.true_and]
      exact ih.2
theorem quo_all : ∀ {l : List (List UInt8)}, allW l = true → (unqAll l).map quoL = l
  | [], _ => rfl
  | w :: l, h => by
    simp only [allW, List.all_cons, Bool.and_eq_true] at h
    obtain ⟨p, hp⟩ := Option.isSome_iff_exists.1 h.1
    rw [unqAll, hp]
    show quoL p :: (unqAll l).map quoL = _
    rw [quo_unq hp, quo_all h.2]
/-- Fields. -/
def joinF (l : List (List UInt8)) : List UInt8 := joinBy 32 (l.map quoL)
def wordsF (l : List UInt8) : List (List UInt8) := if l = [] then [] else splitBy 32 l
theorem words_join (l : List (List UInt8)) : wordsF (joinF l) = l.map quoL := by
  unfold wordsF joinF
  cases l with
  | nil => rfl
  | cons x l =>
    have hne : joinBy 32 ((x :: l).map quoL) ≠ [] := by
      intro h
      have hq := quo_ne x
      cases l with
      | nil => exact hq h
      | cons y l =>
        have h' : quoL x ++ 32 :: joinBy 32 ((y :: l).map quoL) = [] := h
        simp at h'
    rw [if_neg hne]
    exact split_join (by simp) fun z hz => by
      obtain ⟨y, _, rfl⟩ := List.mem_map.1 hz
      exact quo_blank
theorem join_words {l : List UInt8} (h : allW (wordsF l) = true) : joinF (unqAll (wordsF l)) = l := by
  unfold joinF
  rw [quo_all h]
  unfold wordsF
  split
  · rename_i h0; rw [h0]; rfl
  · exact join_split 32 l
/-- Lines. -/
def joinN (l : List (List UInt8)) : List UInt8 := l.flatMap (· ++ [10])
theorem joinN_cons (x : List UInt8) (l : List (List UInt8)) : joinN (x :: l) = x ++ 10 :: joinN l := by simp [joinN]
/-- The lines of a text that ends in a line feed. -/
def linesN (l : List UInt8) : List (List UInt8) := if l = [] then [] else splitBy 10 l.dropLast
def okN (l : List UInt8) : Bool := l.isEmpty || l.getLast? == some 10
theorem joinN_by : ∀ {l : List (List UInt8)}, l ≠ [] → joinN l = joinBy 10 l ++ [10]
  | [], h => absurd rfl h
  | [x], _ => by simp [joinN, joinBy]
  | x :: y :: l, _ => by
    rw [joinN_cons, joinN_by (l := y :: l) (by simp)]
    show _ = (x ++ 10 :: joinBy 10 (y :: l)) ++ [10]
    simp
theorem okN_join (l : List (List UInt8)) : okN (joinN l) = true := by
  cases l with
  | nil => rfl
  | cons x l =>
    rw [joinN_by (by simp)]
    simp [okN]
theorem lines_join (l : List (List UInt8)) : linesN (joinN l) = if l = [] then [] else splitBy 10 (joinBy 10 l) := by
  unfold linesN
  cases l with
  | nil => rfl
  | cons x l =>
    rw [joinN_by (by simp), if_neg (by simp), if_neg (by simp), List.dropLast_concat]
theorem lines_plain {l : List (List UInt8)} (h : ∀ x ∈ l, (10 : UInt8) ∉ x) : linesN (joinN l) = l := by
  rw [lines_join]
  split
  · rename_i h0; exact h0.symm
  · rename_i h0; exact split_join h0 h
theorem split_count (c : UInt8) : ∀ l : List UInt8, (splitBy c l).length = l.count c + 1
  | [] => rfl
  | b :: l => by
    have ih := split_count c l
    rw [splitBy]
    split
    · rename_i hb; subst hb
      simp [ih]
    · rename_i hb
      cases hs : splitBy c l with
      | nil => exact absurd hs (splitBy_ne c l)
      | cons h t =>
        rw [hs] at ih
        rw [List.count_cons_of_ne hb]
        simpa using ih
theorem join_count (c : UInt8) : ∀ l : List (List UInt8), l.length ≤ (joinBy c l).count c + 1
  | [] => Nat.zero_le _
  | [x] => by simp
  | x :: y :: l => by
    have ih := join_count c (y :: l)
    show _ ≤ (x ++ c :: joinBy c (y :: l)).count c + 1
    rw [List.count_append, List.count_cons_self]
    simp only [List.length_cons] at ih ⊢
    omega
theorem lines_many (l : List (List UInt8)) : l.length ≤ (linesN (joinN l)).length := by
  rw [lines_join]
  split
  · rename_i h; rw [h]; exact Nat.le_refl _
  · rw [split_count]; exact join_count 10 l
theorem join_lines {l : List UInt8} (h : okN l = true) : joinN (linesN l) = l := by
  unfold linesN
  split
  · rename_i h0; rw [h0]; rfl
  · rename_i h0
    rw [joinN_by (splitBy_ne _ _), join_split]
    have h1 : l.getLast? = some 10 := by
      unfold okN at h
      cases l with
      | nil => exact absurd rfl h0
      | cons b l => simpa using h
    obtain ⟨h2, h3⟩ := List.getLast?_eq_some_iff.1 h1
    rw [h3, List.dropLast_concat]
open Go.RowKit
section
variable {P : Program} {Δ : List Deferred} {W : World} {Q : Exit → Act → World → Prop} {Φ : World → Prop} {c : Cfg}
/-- A call that may change all that was made since the function began (no box of the machine's own is open). -/
theorem Good.callB {X : Type} {val : X → Value} {g : FuncId} {args : Array Value} {Φ' : X → World → Prop}
    (hs : ∀ w, Below W.heap.size W w → Φ w → Calls P g args w (fun e w' => ∃ x, e = .returned (val x) ∧ Below W.heap.size w w' ∧ ∀ w'', w'.heap.size ≤ w''.heap.size → (∀ b, W.heap.size ≤ b → b < w'.heap.size → w''.heap[b]? = w'.heap[b]?) → Φ' x w''))
    (hb : c.st.box = fun _ => none) (hf : opsFoc c = true) (hc : nextCallV P c = some (g, args)) (h : ∀ x, Good P Δ W Q (Φ' x) (amBack (.v (val x)) c)) : Good P Δ W Q Φ c := by
  obtain ⟨foc, k, σ⟩ := c
  have hb : σ.box = fun _ => none := hb
  replace h := fun x => (h x).get
  refine ⟨?_⟩
  unfold nextCallV at hc
  split at hc
  · rename_i g' xs hn
    split at hc
    · rename_i vs hv
      injection hc with hc
      injection hc with h1 h2
      subst h1; subst h2
      unfold nextCall at hn
      split at hn
      · rename_i ops o ho
        split at hn
        · rename_i hw
          unfold nextOp at ho
          simp only at ho
          split at ho
          · rename_i ops' i l
            cases hoi : ops'[i]? with
            | none => rw [hoi] at ho; cases ho
            | some o' =>
              rw [hoi] at ho
              simp only [Option.map_some, Option.some.injEq, Prod.mk.injEq] at ho
              obtain ⟨rfl, rfl⟩ := ho
              intro hwf β a w hr
              show wpOps P ops' (post P Q k) (i :: l) a w
              rw [wpOps_cons]
              unfold wpOp
              simp only [hoi, wantedA_ok hr, hw, if_true]
              refine .inl ?_
              unfold Oper.wp
              rw [acall_ok hn hr, allV_conc hv]
              refine Calls.mono (hs w hr.bel hr.phi) fun e w' he => ?_
              obtain ⟨x, rfl, hch, hG⟩ := he
              simp only [GoodD, amBack, hoi, Option.bind_some] at h
              have hr' : Rep Δ W β σ (Φ' x) a w' := ⟨hr.tmps, hr.defers, ⟨hch.os.trans hr.bel.os, hch.tape.trans hr.bel.tape, hch.output.trans hr.bel.output, Nat.le_trans hr.bel.size hch.size, fun k hk => (hch.block k hk).trans (hr.bel.block k hk)⟩, (fun k cs hk => by rw [hb] at hk; cases hk), hr.inj, (fun w'' hw => hG w'' hw.size fun b h1 h2 => hw.heap b h1 h2 fun k hk => by rw [hb] at hk; cases hk)⟩
              exact h x (hwf.put _ (by intro k hk; simp [AV.ids] at hk)) β _ w' (hr'.put o'.dst (.v (val x)))
          · cases hf
          · cases ho
        · cases hn
      · cases hn
    · cases hc
  · cases hc
end
section
variable {W w : World} {g : Nat} {bs l : List UInt8}
end
section
variable {w : World} {l : List UInt8}
end
open Go.RowKit
def slC (t : TypeId) (s : Value) (kd : IntKind) (i j : Int) : Sem Next := Instr.sliceAt t s (some (.int kd i)) (some (.int kd j)) none >>= fun v => pure (.value v)
section
variable {P : Program} {w : World} {l : List UInt8} {t : TypeId}
theorem run_slice_both (s : ByteArray) (ht : P.underlying t = some .string) (k1 k2 : IntKind) (a b : Int) (h0 : 0 ≤ a) (h1 : a ≤ b) (h2 : b ≤ s.size) :
    (Instr.slice t (.string s) (some (.int k1 a)) (some (.int k2 b)) none).run P w = .ok (.string (s.extract a.toNat b.toNat)) w := by
  simp [Instr.slice, run_underlying ht, Instr.sliceBounds, run_sliceBound, sliced, *, (by omega : 0 ≤ b)]
  rw [run_sliceBound _ _ _ _ _ h0 (by omega)]
  rfl
theorem run_slC {kd : IntKind} {i j : Nat} (ht : P.underlying t = some .string) (h1 : i ≤ j) (h2 : j ≤ l.length) : (slC t (strOf l) kd i j).run P w = .ok (.value (strOf ((l.take j).drop i))) w := by
  have := run_slice_both (P := P) (w := w) ⟨l.toArray⟩ ht kd kd i j (by omega) (by omega) (by show (j : Int) ≤ ((l.length : Nat) : Int); omega)
  simp only [slC, strOf, Sem.run_bind, sliceAtS ht] at this ⊢
  simp only [this, Result.andThen_ok, Sem.run_pure, Int.toNat_natCast]
  have e : (⟨l.toArray⟩ : ByteArray).extract i j = ⟨((l.take j).drop i).toArray⟩ := by
    apply ByteArray.ext
    simp [ByteArray.data_extract, List.drop_take]
  rw [e]
theorem run_slC1 {kd : IntKind} {i : Nat} {b : UInt8} (ht : P.underlying t = some .string) (h : l[i]? = some b) : (slC t (strOf l) kd i (i + 1 : Nat)).run P w = .ok (.value (strOf [b])) w := by
  obtain ⟨h1, h2⟩ := List.getElem?_eq_some_iff.1 h
  rw [run_slC ht (Nat.le_succ i) h1]
  have : (l.take (i + 1)).drop i = [b] := by
    rw [List.take_add_one, h, List.drop_append_of_le_length (by simp; omega)]
    simp
  rw [this]
end
theorem drop_at {l : List UInt8} {k : Nat} {c : UInt8} (h : l[k]? = some c) : l.drop k = c :: l.drop (k + 1) := by
  obtain ⟨h1, h2⟩ := List.getElem?_eq_some_iff.1 h
  rw [List.drop_eq_getElem_cons h1, h2]
section
variable {l p : List UInt8} {k : Nat} {a b c : UInt8}
end
theorem wrap_add {k n : Nat} (j : Nat) (h : k + j ≤ n) (hn : n ≤ 1000000) : IntKind.i64.wrap ((k : Int) + (j : Nat)) = ((k + j : Nat) : Int) := by rw [IntWalk.i64_in _ (by omega)]; omega
section
variable {w : World} {l : List UInt8}
end
open Go.RowKit
section
variable {w : World} {l : List UInt8} {o : Option (List UInt8)}
theorem wrap_two {k n : Nat} (h : k + 2 ≤ n) (hn : n ≤ 1000000000) : IntKind.i64.wrap ((k : Int) + 2) = ((k + 2 : Nat) : Int) := by rw [IntWalk.i64_in _ (by omega)]; omega
end
open Go.RowKit
def cutC (c : UInt8) : List UInt8 → List UInt8 × List UInt8 × Bool
  | [] => ([], [], false)
  | b :: l => if b = c then ([], l, true) else (b :: (cutC c l).1, (cutC c l).2.1, (cutC c l).2.2)
theorem lib_cutC (c : UInt8) : ∀ (l : List UInt8), Lib.cut l [c] = cutC c l
  | [] => rfl
  | b :: l => by
    have ih := lib_cutC c l
    have hge := Lib.index_ge l [c]
    unfold Lib.cut at ih ⊢
    unfold cutC
    rw [Lib.index]
    by_cases hb : b = c
    · subst hb
      simp
    · have hp : [c].isPrefixOf (b :: l) = false := by
        simp only [List.isPrefixOf, Bool.and_true]
        exact beq_eq_false_iff_ne.2 (Ne.symm hb)
      rw [hp, if_neg hb, ← ih]
      by_cases h1 : Lib.index l [c] = -1
      · rw [h1]; rfl
      · obtain ⟨k, hk⟩ : ∃ k : Nat, Lib.index l [c] = k := ⟨(Lib.index l [c]).toNat, by omega⟩
        rw [hk]
        have e1 : ((k : Int) == -1) = false := beq_eq_false_iff_ne.2 (by omega)
        rw [e1]
        have e2 : ((k : Int) + 1).toNat = k + 1 := by omega
        have e3 : ((k : Int)).toNat = k := by omega
        simp only [Bool.false_eq_true, if_false, if_pos (show (0 : Int) ≤ (k : Int) + 1 by omega), if_pos (show (0 : Int) ≤ (k : Int) by omega), e2, e3, List.take_succ_cons, List.length_singleton, List.drop_succ_cons]
theorem cut_yes (c : UInt8) : ∀ {l : List UInt8}, (cutC c l).2.2 = true → splitBy c l = (cutC c l).1 :: splitBy c (cutC c l).2.1 ∧ (cutC c l).1.length + (cutC c l).2.1.length + 1 = l.length
  | [], h => by cases h
  | b :: l, h => by
    unfold cutC at h ⊢
    by_cases hb : b = c
    · subst hb
      simp only [if_true]
      exact ⟨splitBy_eq, by simp⟩
    · simp only [if_neg hb] at h ⊢
      have ih := cut_yes c (l := l) h
      refine ⟨?_, by have := ih.2; simp only [List.length_cons]; omega⟩
      rw [splitBy, if_neg hb, ih.1]
theorem cut_not (c : UInt8) : ∀ {l : List UInt8}, (cutC c l).2.2 = false → splitBy c l = [l] ∧ (cutC c l).1 = l
  | [], _ => ⟨rfl, rfl⟩
  | b :: l, h => by
    unfold cutC at h ⊢
    by_cases hb : b = c
    · subst hb
      simp only [if_true] at h
      cases h
    · simp only [if_neg hb] at h ⊢
      have ih := cut_not c (l := l) h
      rw [splitBy, if_neg hb, ih.1, ih.2]
      exact ⟨rfl, rfl⟩
theorem lib_split (c : UInt8) : ∀ (n : Nat) (l : List UInt8), l.length ≤ n → Lib.splitK [c] 0 (Lib.count l [c]) l = splitBy c l
  | n, l, hn => by
    have hc := lib_cutC c l
    have hge := Lib.index_ge l [c]
    unfold Lib.cut at hc
    by_cases h1 : Lib.index l [c] = -1
    · rw [if_neg (by omega)] at hc
      rw [Lib.count_miss h1, (cut_not c (l := l) (by rw [← hc])).1]
      rfl
    · obtain ⟨k, hk⟩ : ∃ k : Nat, Lib.index l [c] = k := ⟨(Lib.index l [c]).toNat, by omega⟩
      rw [if_pos (by omega), hk] at hc
      obtain ⟨h2, h3⟩ := cut_yes c (l := l) (by rw [← hc])
      rw [← hc] at h2 h3
      simp only [Int.toNat_natCast, List.length_singleton] at h2 h3
      have hcount := Lib.count_hit (sub := [c]) (s := l) (i := k) (by simp) hk
      match n, hn with
      | 0, hn => omega
      | n + 1, hn =>
        rw [hcount, Nat.add_comm, Lib.splitK, if_neg (by rw [hk]; simp), h2, hk]
        simp only [Int.toNat_natCast, Nat.add_zero, List.length_singleton] at h3 ⊢
        rw [lib_split c n (l.drop (k + 1)) (by omega)]
theorem lib_join (c : UInt8) (l : List (List UInt8)) : Lib.join l [c] = joinBy c l := by
  cases l with
  | nil => rfl
  | cons x l =>
    rw [Lib.join_cons]
    induction l generalizing x with
    | nil => simp [Lib.joinTail, joinBy]
    | cons y l ih =>
      show _ = x ++ c :: joinBy c (y :: l)
      rw [← ih y]
      simp [Lib.joinTail]
theorem join_snoc (c : UInt8) : ∀ (l : List (List UInt8)) (x : List UInt8), joinBy c (l ++ [x]) = if l = [] then x else joinBy c l ++ c :: x
  | [], x => rfl
  | [y], x => rfl
  | y :: z :: l, x => by
    have ih := join_snoc c (z :: l) x
    rw [if_neg (by simp)] at ih ⊢
    show y ++ c :: joinBy c ((z :: l) ++ [x]) = (y ++ c :: joinBy c (z :: l)) ++ c :: x
    rw [ih]; simp
/-- How long all the strings are together. -/
def sumL : List (List UInt8) → Nat
  | [] => 0
  | x :: l => x.length + sumL l
theorem join_len (c : UInt8) : ∀ l : List (List UInt8), (joinBy c l).length ≤ sumL l + l.length
  | [] => Nat.zero_le _
  | [x] => by simp [joinBy, sumL]
  | x :: y :: l => by
    have ih := join_len c (y :: l)
    show (x ++ c :: joinBy c (y :: l)).length ≤ x.length + sumL (y :: l) + _
    simp only [List.length_append, List.length_cons] at ih ⊢
    omega
theorem sum_quo : ∀ l : List (List UInt8), sumL (l.map quoL) ≤ 3 * sumL l + l.length
  | [] => Nat.zero_le _
  | x :: l => by
    have ih := sum_quo l
    have := (quo_len x).2
    simp only [List.map_cons, sumL, List.length_cons]
    omega
theorem joinF_len (l : List (List UInt8)) : (joinF l).length ≤ 3 * sumL l + 2 * l.length := by
  have h1 := join_len 32 (l.map quoL)
  have h2 := sum_quo l
  unfold joinF
  rw [List.length_map] at h1
  omega
theorem joinN_len : ∀ l : List (List UInt8), (joinN l).length = sumL l + l.length
  | [] => rfl
  | x :: l => by
    have ih := joinN_len l
    rw [joinN_cons]
    simp only [List.length_append, List.length_cons, sumL]
    omega
theorem sum_take : ∀ (l : List (List UInt8)) (k : Nat), sumL (l.take k) ≤ sumL l
  | [], k => by simp
  | x :: l, 0 => by simp [sumL]
  | x :: l, k + 1 => by
    have ih := sum_take l k
    simp only [List.take_succ_cons, sumL]; omega
theorem mem_sum : ∀ {l : List (List UInt8)} {x : List UInt8}, x ∈ l → x.length ≤ sumL l
  | y :: l, x, h => by
    simp only [sumL]
    rcases List.mem_cons.1 h with rfl | h
    · omega
    · have := mem_sum h; omega
theorem joinF_take (l : List (List UInt8)) (k : Nat) : (joinF (l.take k)).length ≤ 3 * sumL l + 2 * l.length := by
  have h1 := joinF_len (l.take k)
  have h2 := sum_take l k
  have h3 := List.length_take_le k l
  have h4 : (l.take k).length ≤ l.length := by rw [List.length_take]; omega
  omega
theorem joinN_take (l : List (List UInt8)) (k : Nat) : (joinN (l.take k)).length ≤ sumL l + l.length := by
  have h1 := joinN_len (l.take k)
  have h2 := sum_take l k
  have h4 : (l.take k).length ≤ l.length := by rw [List.length_take]; omega
  omega
theorem take_snoc {l : List (List UInt8)} {k : Nat} {x : List UInt8} (h : l[k]? = some x) : l.take (k + 1) = l.take k ++ [x] := by rw [List.take_add_one, h]; rfl
theorem joinN_snoc (l : List (List UInt8)) (x : List UInt8) : joinN (l ++ [x]) = joinN l ++ (x ++ [10]) := by simp [joinN]
def sv (l : List (List UInt8)) : List Value := l.map strOf
def StrAt (w : World) (A : Option Addr) (n : Nat) (ls : List (List UInt8)) : Prop := ls.length = n ∧ ∀ (k : Nat) (s : List UInt8), ls[k]? = some s → ∃ ad, A = some ad ∧ w.cell? (ad.add k) = some (strOf s)
theorem StrAt.below {w w1 : World} {A : Option Addr} {n : Nat} {ls : List (List UInt8)} (h : StrAt w A n ls) (hw : Below w.heap.size w w1) : StrAt w1 A n ls :=
  ⟨h.1, fun k s hk => by obtain ⟨ad, h1, h2⟩ := h.2 k s hk; exact ⟨ad, h1, keepc hw h2⟩⟩
theorem OwnR.strs {w : World} {A : Option Addr} {B n c : Nat} {e : TypeId} {ls : List (List UInt8)} (h : OwnR w B e 1 A n c (sv ls)) : StrAt w A n ls := by
  have hl : ls.length = n := by have := h.len; simpa [sv] using this
  refine ⟨hl, fun k s hk => ?_⟩
  have hj := (List.getElem?_eq_some_iff.1 hk).1
  obtain ⟨g, hg, hc⟩ := h.cells (by omega)
  have := hc k (strOf s) (by simp [sv, hk])
  exact ⟨_, hg, by rw [Addr.add_mid, Nat.zero_add]; exact this⟩
section
variable {w : World} {A y : Option Addr} {n c m yc : Nat} {ls p : List (List UInt8)} {l : List UInt8} {o : Option (List UInt8)}
theorem app_str {B : Nat} {gb : Nat} {s : List UInt8} (ho : OwnR w B 9 1 y m yc (sv p)) (hB : B ≤ w.heap.size) (hg : litG 9 #[strOf s] gb w) (hm : m < 100000000) :
    MutRun Tryd.prog w (bl y) (fun z : Option Addr × Nat => .slice z.1 (m + 1) z.2) (fun z v => OwnR v B 9 1 z.1 (m + 1) z.2 (sv (p ++ [s]))) (appS 43 43 (.slice y m yc) (litV 1 gb)) := by
  have ha := appendR_m (P := Tryd.prog) (s := 1) (z := .string ⟨#[]⟩) (bytes := 16) (m := 1) (cc := 1) (t := 43) (elem := 9) (by kernel_rfl) (by kernel_rfl) rfl (by decide) ho hB (litG_reads (n := 1) hg rfl) (by intro v hv; simp at hv; rcases hv with rfl; rfl) (by omega) (by decide)
  have e : sv (p ++ [s]) = sv p ++ [strOf s] := by simp [sv]
  rw [e]; exact ha
theorem own_cap {B : Nat} {e : TypeId} {xs : List Value} (h : OwnR w B e 1 y n c xs) : n ≤ c ∧ (0 < n → ∃ g, y = some ⟨g, 0, none⟩ ∧ g < w.heap.size) := by
  rcases h.2 with ⟨h1, h2⟩ | ⟨g, cap, cur, h1, hB, hh, hn, rest⟩
  · cases h1; exact ⟨Nat.le_refl _, fun h => by omega⟩
  · cases h1; exact ⟨by first | exact hn | omega | exact rest.1, fun _ => ⟨g, rfl, (Array.getElem?_eq_some_iff.1 hh).1⟩⟩
theorem join_m {B : Nat} (h : OwnR w B 9 1 y n yc (sv p)) (hl : (joinBy 32 p).length ≤ 100000000) (hn : n ≤ 100000000) : Calls Tryd.prog 19 #[.slice y n yc, .string ⟨#[32]⟩] w (CallPost w (fun _ : Unit => strOf (joinBy 32 p)) fun _ _ => True) := by
  have hs := h.strs
  have hpn := hs.1
  obtain ⟨h1, h2⟩ := own_cap h
  by_cases h0 : n = 0
  · subst h0
    obtain rfl : p = [] := List.length_eq_zero_iff.1 hpn
    refine (Tryd.strings_Join_none y yc ⟨#[32]⟩ w).mono fun e w' he => ⟨(), he.1, by rw [he.2]; exact Below.refl _ _, fun _ _ _ => trivial⟩
  · obtain ⟨g, rfl, hg⟩ := h2 (by omega)
    have hmap : (p.map fun s => (⟨s.toArray⟩ : ByteArray)).map (fun b => b.data.toList) = p := by simp [Function.comp_def]
    have := Tryd.strings_Join g 0 yc (p.map fun s => ⟨s.toArray⟩) ⟨#[32]⟩ w (fun j x hj => by
      rw [List.getElem?_map] at hj
      obtain ⟨s, h3, rfl⟩ := Option.map_eq_some_iff.1 hj
      obtain ⟨ad, h4, h5⟩ := hs.2 j s h3
      injection h4 with h4
      rw [← h4, Addr.add_mid] at h5
      exact h5) hg (by simp; omega) (by simp; omega) (by rw [hmap]; show (Lib.join p [32]).length ≤ _; rw [lib_join]; omega)
    rw [hmap, List.length_map, hpn] at this
    refine this.mono fun e w' he => ⟨(), ?_, he.2, fun _ _ _ => trivial⟩
    rw [he.1]
    show Ending.returned (strOf (Lib.join p [32])) = _
    rw [lib_join]
theorem split_m (c : UInt8) (hM : ML w) (hl : l.length ≤ 100000000) : Calls Tryd.prog 22 #[strOf l, .string ⟨#[c]⟩] w (CallPost w (fun y : Nat => .slice (some ⟨y, 0, none⟩) (splitBy c l).length (splitBy c l).length) fun y u => StrAt u (some ⟨y, 0, none⟩) (splitBy c l).length (splitBy c l)) := by
  obtain ⟨m, hm⟩ := hM
  refine (Tryd.strings_Split ⟨l.toArray⟩ ⟨#[c]⟩ m w (show l.length < _ by omega) hm (show 1 ≤ 1 from Nat.le_refl 1)).mono fun e w' h => ?_
  obtain ⟨he, hw⟩ := h
  have hdat := Lib.splitB_data ⟨#[c]⟩ 0 (Lib.countB ⟨l.toArray⟩ ⟨#[c]⟩) ⟨l.toArray⟩
  have hsp : Lib.splitK [c] 0 (Lib.count l [c]) l = splitBy c l := lib_split c _ l (Nat.le_refl _)
  have hdat' : (Lib.splitB ⟨#[c]⟩ 0 (Lib.countB ⟨l.toArray⟩ ⟨#[c]⟩) ⟨l.toArray⟩).map (·.data.toList) = splitBy c l := hdat.trans hsp
  have hlen : (splitBy c l).length = Lib.countB ⟨l.toArray⟩ ⟨#[c]⟩ + 1 := by
    rw [← hdat', List.length_map]
    exact Lib.splitB_all ⟨#[c]⟩ (show 1 ≤ 1 from Nat.le_refl 1) 0 _ _ rfl
  refine ⟨w.heap.size, by rw [he, hlen], by rw [hw]; exact below_new _ _, fun w'' h1 h2 => ⟨rfl, fun k s hk => ⟨_, rfl, ?_⟩⟩⟩
  rw [hw] at h1 h2
  obtain ⟨h3, _⟩ := alloc_at w _ h1 h2
  rw [← hdat', List.getElem?_map] at hk
  obtain ⟨b, hb, rfl⟩ := Option.map_eq_some_iff.1 hk
  rw [Addr.add_mid, Nat.zero_add]
  simp only [World.cell?, h3, Option.isSome_none, Bool.false_eq_true, if_false]
  simp [hb, strOf]
end
open Go.RowKit
/-- A function whose text is a scope (it names a loop), with no jump to a label. -/
def inScopeC (c : Cfg) : Option Cfg := match c.foc with
  | .code (.scope x) => match c.k with
    | [] => some ⟨.code x, [], c.st⟩
    | _ => none
  | _ => none
def amScope (c : Cfg) : Cfg := (inScopeC c).getD c
theorem Good.scope {P : Program} {Δ : List Deferred} {W : World} {fn : Func} {R : Ending → World → Prop} {Φ : World → Prop} {c : Cfg} (hc : (inScopeC c).isSome = true) (h : Good P Δ W (bodyPost P fn R) Φ (amScope c)) : Good P Δ W (bodyPost P fn R) Φ c := by
  obtain ⟨foc, k, σ⟩ := c
  unfold amScope at h
  unfold inScopeC at hc h
  simp only at hc h
  split at hc
  · rename_i x
    split at hc
    · replace h := h.get
      refine ⟨fun hwf β a w hr => wp_scope_straight (wp_mono (h hwf β a w hr) fun e a w hq => ?_)⟩
      cases e <;> first | exact hq | exact hq.elim
    · cases hc
  · cases hc
section
variable {w : World} {l : List UInt8} {o : Option (List UInt8)}
theorem run_frm {P : Program} {t : TypeId} {i : Nat} (ht : P.underlying t = some .string) (h : i ≤ l.length) : (fromA t (strOf l) i).run P w = .ok (.value (strOf (l.drop i))) w := by
  have := run_slice_string_l (P := P) w t ⟨l.toArray⟩ ht .i64 i (by omega) (by show (i : Int) ≤ ((l.length : Nat) : Int); omega)
  simp only [fromA, strOf, Sem.run_bind, sliceAtS ht, this, Result.andThen_ok, Sem.run_pure, Int.toNat_natCast]
  have e : (⟨l.toArray⟩ : ByteArray).extract i (⟨l.toArray⟩ : ByteArray).size = ⟨(l.drop i).toArray⟩ := by
    apply ByteArray.ext
    simp [ByteArray.data_extract, ByteArray.size, List.take_of_length_le]
  rw [e]
theorem allW_cons {x : List UInt8} {t : List (List UInt8)} : allW (x :: t) = ((unqL x).isSome && allW t) := rfl
theorem unqAll_some {x s : List UInt8} {t : List (List UInt8)} (h : unqL x = some s) : unqAll (x :: t) = s :: unqAll t := by rw [unqAll, h]
theorem unqAll_none {x : List UInt8} {t : List (List UInt8)} (h : unqL x = none) : unqAll (x :: t) = [] := by rw [unqAll, h]
def fldV (B : Bool) (ps : List (List UInt8)) (y : Option Addr × Nat) : Value := match B with
  | true => .tuple #[.slice y.1 ps.length y.2, .int .i64 0, .int .i64 0]
  | false => .tuple #[.slice none 0 0, .int .i64 ps.length, .int .i64 3]
def fldG (B : Bool) (ps : List (List UInt8)) (y : Option Addr × Nat) (u : World) : Prop := match B with
  | true => StrAt u y.1 ps.length ps
  | false => True
theorem split_mem (c : UInt8) : ∀ (l : List UInt8), ∀ x ∈ splitBy c l, x.length ≤ l.length
  | [], x, h => by simp [splitBy] at h; subst h; exact Nat.le_refl _
  | b :: l, x, h => by
    have ih := split_mem c l
    rw [splitBy] at h
    split at h
    · rcases List.mem_cons.1 h with rfl | h
      · simp
      · have := ih x h; simp only [List.length_cons]; omega
    · cases hs : splitBy c l with
      | nil => exact absurd hs (splitBy_ne c l)
      | cons y t =>
        rw [hs] at h ih
        rcases List.mem_cons.1 h with rfl | h
        · have := ih y (by simp); simp only [List.length_cons]; omega
        · have := ih x (by simp [h]); simp only [List.length_cons]; omega
theorem strAt_nil : StrAt w none 0 [] := ⟨rfl, fun k s h => by simp at h⟩
end
open Go.RowKit
theorem split_end (c : UInt8) : ∀ m : List UInt8, splitBy c (m ++ [c]) = splitBy c m ++ [[]]
  | [] => by simp [splitBy]
  | b :: m => by
    have ih := split_end c m
    show splitBy c (b :: (m ++ [c])) = _
    rw [splitBy, splitBy, ih]
    split
    · rfl
    · cases hs : splitBy c m with
      | nil => exact absurd hs (splitBy_ne c m)
      | cons h t => rfl
theorem split_last {c b : UInt8} (hb : b ≠ c) : ∀ m : List UInt8, ∃ p x, splitBy c (m ++ [b]) = p ++ [x ++ [b]]
  | [] => ⟨[], [], by simp [splitBy, hb]⟩
  | a :: m => by
    obtain ⟨p, x, ih⟩ := split_last hb m
    show ∃ p x, splitBy c (a :: (m ++ [b])) = _
    rw [splitBy, ih]
    split
    · exact ⟨[] :: p, x, rfl⟩
    · cases p with
      | nil => exact ⟨[], a :: x, rfl⟩
      | cons h t => exact ⟨(a :: h) :: t, x, rfl⟩
theorem ok_dec {l : List UInt8} (h0 : l ≠ []) : okN l = Lib.hasSuffix l [10] := by
  obtain ⟨m, b, rfl⟩ : ∃ m b, l = m ++ [b] := ⟨l.dropLast, l.getLast h0, (List.dropLast_concat_getLast h0).symm⟩
  unfold okN Lib.hasSuffix
  rw [List.getLast?_concat]
  by_cases hb : b = 10
  · subst hb
    have h1 : ([10] : List UInt8).isSuffixOf (m ++ [10]) = true := List.isSuffixOf_iff_suffix.2 ⟨m, rfl⟩
    rw [h1]; simp
  · have h1 : ([10] : List UInt8).isSuffixOf (m ++ [b]) = false := by
      cases hs : ([10] : List UInt8).isSuffixOf (m ++ [b])
      · rfl
      · obtain ⟨t, ht⟩ := List.isSuffixOf_iff_suffix.1 hs
        have := congrArg List.getLast? ht
        rw [List.getLast?_concat, List.getLast?_concat] at this
        injection this with this
        exact absurd this.symm hb
    rw [h1]; simp [hb]
theorem trim_ok {l : List UInt8} (h0 : l ≠ []) (h : okN l = true) : Lib.trimSuffix l [10] = l.dropLast := by
  unfold Lib.trimSuffix
  rw [← ok_dec h0, h, if_pos rfl, List.dropLast_eq_take]; rfl
theorem lines_words {l : List UInt8} (h0 : l ≠ []) (h : okN l = true) : splitBy 10 l = linesN l ++ [[]] := by
  obtain ⟨m, b, rfl⟩ : ∃ m b, l = m ++ [b] := ⟨l.dropLast, l.getLast h0, (List.dropLast_concat_getLast h0).symm⟩
  have hb : b = 10 := by
    rw [okN, List.getLast?_concat] at h
    simpa using h
  subst hb
  rw [split_end, linesN, if_neg h0, List.dropLast_concat]
theorem lines_bad {l : List UInt8} (h : okN l = false) : ∃ p x, splitBy 10 l = p ++ [x] ∧ x ≠ [] := by
  have h0 : l ≠ [] := by rintro rfl; cases h
  obtain ⟨m, b, rfl⟩ : ∃ m b, l = m ++ [b] := ⟨l.dropLast, l.getLast h0, (List.dropLast_concat_getLast h0).symm⟩
  have hb : b ≠ 10 := by
    rintro rfl
    rw [okN, List.getLast?_concat] at h
    simp at h
  obtain ⟨p, x, e⟩ := split_last hb m
  exact ⟨p, x ++ [b], e, by simp⟩
def slH (t : TypeId) (s : Value) (i : Int) : Sem Next := Instr.sliceAt t s none (some (.int .i64 i)) none >>= fun v => pure (.value v)
section
variable {w : World} {l : List UInt8} {A A2 : Option Addr} {n n2 c c2 : Nat} {xs bs ls : List (List UInt8)}
theorem run_slH {P : Program} {t e : TypeId} {g n c i : Nat} (ht : P.underlying t = some (.slice e)) (he : P.elem t = e) (hs : sizeT P e = some 1) (hi : i ≤ c) : (slH t (.slice (some ⟨g, 0, none⟩) n c) i).run P w = .ok (.value (.slice (some ⟨g, 0, none⟩) i c)) w := by
  have h1 := run_slice_h (P := P) w t (some ⟨g, 0, none⟩) n c (by rw [he]; exact ht) .i64 i (by omega) (by omega)
  have h2 := run_sliceAt_slice (P := P) w t (.slice (some ⟨g, 0, none⟩) n c) none (some (.int .i64 i)) none (by rw [he]; exact ht)
  simp only [slH, Sem.run_bind, h2, h1, he, run_sizeT hs, Result.andThen_ok, Sem.run_pure]
  simp [sliced, Addr.add]
/-- What few reckons. -/
def minL : List (List UInt8) → Nat
  | [] => 0
  | x :: l => min x.length 5000 + minL l
theorem minL_snoc : ∀ (l : List (List UInt8)) (x : List UInt8), minL (l ++ [x]) = minL l + min x.length 5000
  | [], x => by simp [minL]
  | y :: l, x => by
    have ih := minL_snoc l x
    show min y.length 5000 + minL (l ++ [x]) = _
    rw [ih, minL]; omega
theorem minL_bound : ∀ (l : List (List UInt8)) , minL l ≤ 5000 * l.length
  | [] => Nat.zero_le _
  | x :: l => by
    have ih := minL_bound l
    simp only [minL, List.length_cons]; omega
def fewB (ls : List (List UInt8)) : Bool := decide (ls.length ≤ 300) && decide (minL (ls.take 1000) ≤ 5000)
end
open Go.RowKit
def minS (t : TypeId) (x y : Int) : Sem Next := Builtin.min_ #[t, t] t #[.int .i64 x, .int .i64 y] >>= fun v => pure (.value v)
section
variable {w : World} {l m : List UInt8} {A : Option Addr} {n c : Nat} {ls ps : List (List UInt8)}
theorem run_minS {P : Program} {t : TypeId} {x y : Nat} : (minS t x y).run P w = .ok (.value (.int .i64 (min x y : Nat))) w := by
  simp only [minS, Sem.run_bind, run_min_int2, Result.andThen_ok, Sem.run_pure]
  congr 3
  split <;> omega
end
open Go.RowKit
theorem cell_lt {w : World} {a : Addr} {v : Value} (h : w.cell? a = some v) : a.block < w.heap.size := by
  rcases Nat.lt_or_ge a.block w.heap.size with h1 | h1
  · exact h1
  · simp [World.cell?, Array.getElem?_eq_none h1] at h
section
variable {w : World} {l m : List UInt8} {A : Option Addr} {n c : Nat} {ls ps : List (List UInt8)}
theorem StrAt.reads (h : StrAt w A n ls) : Reads w w.heap.size 1 A n (sv ls) := by
  refine ⟨by simp [sv, h.1], fun h0 => ?_⟩
  obtain ⟨s, hs⟩ : ∃ s, ls[0]? = some s := ⟨_, List.getElem?_eq_getElem (by rw [h.1]; exact h0)⟩
  obtain ⟨ad, hA, hc⟩ := h.2 0 s hs
  refine ⟨ad, hA, ?_, fun j u hj => ?_⟩
  · have := cell_lt hc
    simpa [Addr.add] using this
  · simp only [sv, List.getElem?_map] at hj
    obtain ⟨x, hx, rfl⟩ := Option.map_eq_some_iff.1 hj
    obtain ⟨ad2, hA2, hc2⟩ := h.2 j x hx
    rw [hA] at hA2; cases hA2
    exact hc2
theorem run_app0 {g : Nat} : (appS 43 43 (.slice (some ⟨g, 0, none⟩) 0 0) (.slice A 0 c)).run Tryd.prog w = .ok (.value (.slice (some ⟨g, 0, none⟩) 0 0)) w := by
  have hu : Tryd.prog.underlying 43 = some (.slice 9) := by kernel_rfl
  obtain ⟨i, hi⟩ : ∃ i, Tryd.prog.info? 9 = some i := Option.isSome_iff_exists.1 (by kernel_rfl)
  have hs : Src Tryd.prog i.size 43 (.slice A 0 c) 0 [] w := by
    cases A with
    | none => exact Src.ofNil w hu c
    | some a => exact Src.ofSlice w hu a 0 c [] (by simp) (fun j u h => by simp at h) (fun u h => by cases h)
  simp only [appS, Sem.run_bind, run_append_nothing w _ _ _ _ i hu hi _ 0 0 (Nat.le_refl _) _ hs, Result.andThen_ok, Sem.run_pure]
theorem app_all {g : Nat} (h : StrAt w A n ls) (hn : n ≤ 100000000) :
    MakePost Tryd.prog w (fun y : Option Addr × Nat => .slice y.1 n y.2) (fun y v => StrAt v y.1 n ls) (appS 43 43 (.slice (some ⟨g, 0, none⟩) 0 0) (.slice A n c)) := by
  by_cases h0 : n = 0
  · subst h0
    have hl : ls = [] := List.length_eq_zero_iff.1 h.1
    subst hl
    exact ⟨(some ⟨g, 0, none⟩, 0), w, run_app0, Below.refl _ _, fun _ _ _ => ⟨rfl, fun k s hk => by simp at hk⟩⟩
  · obtain ⟨ad, hA, _⟩ := h.reads.2 (by omega)
    subst hA
    have := appendG_m (P := Tryd.prog) (w := w) (s := 1) (z := .string ⟨#[]⟩) (bytes := 16) (n := 0) (c := 0) (m := n) (cc := c) (xs := []) (ys := sv ls) (b := ⟨g, 0, none⟩) (a := ad) (B := 0) (t := 43) (elem := 9) (by kernel_rfl) (by kernel_rfl) rfl (by decide) ⟨by simp, fun h => absurd h (by omega)⟩ h.reads (by omega) (by omega) (by decide) (Nat.zero_le _) (.inr rfl) (.inl (by omega))
    obtain ⟨x, w', h1, h2, h3⟩ := this
    rw [Nat.zero_add] at h1
    exact ⟨x, w', h1, h2, fun w'' k1 k2 => by have h4 := h3 w'' k1 k2; rw [Nat.zero_add, List.nil_append] at h4; exact h4.strs⟩
theorem MakePost.imp {P : Program} {w : World} {X : Type} {val : X → Value} {G : X → World → Prop} {s : Sem Next} (h : MakePost P w val G s) : MakePost P w val (fun _ _ => True) s := by
  obtain ⟨x, w', h1, h2, _⟩ := h; exact ⟨x, w', h1, h2, fun _ _ _ => trivial⟩
theorem words_len (m : List UInt8) : (wordsF m).length ≤ m.length + 1 := by
  unfold wordsF
  split
  · simp
  · rw [split_count]; have := List.count_le_length (a := (32 : UInt8)) (l := m); omega
theorem lines_len (m : List UInt8) : (linesN m).length ≤ m.length + 1 := by
  unfold linesN
  split
  · simp
  · rw [split_count]; have := List.count_le_length (a := (10 : UInt8)) (l := m.dropLast); simp at this; omega
end

end Go.Proofs.YtlpnjoenkohadaaDoor
