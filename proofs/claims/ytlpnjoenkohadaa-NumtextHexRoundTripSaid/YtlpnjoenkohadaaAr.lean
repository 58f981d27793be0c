/-
  Rows of the call's own that grow: append, for elements of every size.
-/
import Derived.Test.YtlpnjoenkohadaaAo
namespace Go.Proofs.Ytlpnjoenkohadaa
set_option linter.unusedVariables false
set_option linter.unusedSimpArgs false
open Go.RowKit

def appS (t ty : TypeId) (x y : Value) : Sem Next := Builtin.append_ #[t, t] ty #[x, y] >>= fun v => pure (.value v)
def bl (A : Option Addr) : List Nat := match A with | some p => [p.block] | none => []
def infoOf (P : Program) (e : TypeId) : Option (Value × Nat × Nat) := (P.info? e).bind fun i => i.zero.map fun z => (z, i.size, i.bytes)
/-- A row of the call's own: n elements of s cells each, its cells xs. -/
def OwnR (u : World) (B : Nat) (elem : TypeId) (s : Nat) (A : Option Addr) (n c : Nat) (xs : List Value) : Prop := u.ownsRow B elem s (.slice A n c) n xs
section
variable {P : Program} {w w' u : World} {B s n c m cc : Nat} {A A2 : Option Addr} {xs ys : List Value} {t elem : TypeId} {bytes : Nat} {z : Value}
theorem OwnR.nil_ : OwnR u B elem s none 0 0 [] := ⟨by simp, .inl ⟨rfl, rfl⟩⟩
theorem OwnR.len (h : OwnR u B elem s A n c xs) : xs.length = n * s := h.1
theorem OwnR.blk (h : OwnR u B elem s A n c xs) : ∀ b ∈ bl A, B ≤ b ∧ ∃ cs ty own, u.heap[b]? = some (.cells cs ty own) := by
  intro b hb
  rcases h.2 with ⟨h1, _⟩ | ⟨g, cap, cur, h1, hB, hh, _⟩
  · injection h1 with h1 _ _
    subst h1; cases hb
  · injection h1 with h1 _ _
    subst h1
    simp only [bl, List.mem_singleton] at hb
    subst hb
    exact ⟨hB, _, _, _, hh⟩
theorem OwnR.lt (h : OwnR u B elem s A n c xs) : ∀ b ∈ bl A, B ≤ b ∧ b < u.heap.size := fun b hb => by
  obtain ⟨h1, _, _, _, h2⟩ := h.blk b hb
  exact ⟨h1, (Array.getElem?_eq_some_iff.1 h2).1⟩
theorem OwnR.same (h : OwnR u B elem s A n c xs) (e : ∀ b ∈ bl A, w.heap[b]? = u.heap[b]?) : OwnR w B elem s A n c xs := by
  refine ⟨h.1, ?_⟩
  rcases h.2 with h1 | ⟨g, cap, cur, h1, hB, hh, rest⟩
  · exact .inl h1
  · refine .inr ⟨g, cap, cur, h1, hB, ?_, rest⟩
    injection h1 with h1 _ _
    subst h1
    exact (e g (by simp [bl])).trans hh
theorem OwnR.left {L : List Nat} (h : OwnR u B elem s A n c xs) (e2 : ∀ b, b ∉ L → u.heap[b]? = w.heap[b]?) (hd : ∀ b ∈ bl A, b ∉ L) : OwnR w B elem s A n c xs := h.same fun b hb => (e2 b (hd b hb)).symm
theorem OwnR.below (h : OwnR u B elem s A n c xs) (hb : Below u.heap.size u w) : OwnR w B elem s A n c xs := h.same fun b hbl => hb.block b (h.lt b hbl).2
theorem OwnR.rebase {B' : Nat} (h : OwnR u B elem s A n c xs) (hB : ∀ b ∈ bl A, B' ≤ b) : OwnR u B' elem s A n c xs := by
  refine ⟨h.1, ?_⟩
  rcases h.2 with h1 | ⟨g, cap, cur, h1, _, rest⟩
  · exact .inl h1
  · refine .inr ⟨g, cap, cur, h1, ?_, rest⟩
    injection h1 with h1 _ _
    subst h1
    exact hB g (by simp [bl])
/-- The row's cells. -/
theorem OwnR.cells (h : OwnR u B elem s A n c xs) (h0 : 0 < n) : ∃ g, A = some ⟨g, 0, none⟩ ∧ ∀ (j : Nat) (v : Value), xs[j]? = some v → u.cell? ⟨g, j, none⟩ = some v := by
  rcases h.2 with ⟨_, h1⟩ | ⟨g, cap, cur, h1, hB, hh, hn, hc, hs, ht⟩
  · omega
  · injection h1 with h1 _ _
    refine ⟨g, h1, fun j v hv => ?_⟩
    rw [← ht, List.getElem?_take] at hv
    simp only [World.cell?, hh, Option.isSome_none, Bool.false_eq_true, if_false]
    split at hv
    · simpa using hv
    · cases hv
theorem OwnR.reads (h : OwnR u B elem s A n c xs) : Reads u u.heap.size s A n xs := by
  refine ⟨h.1, fun h0 => ?_⟩
  obtain ⟨g, hA, hc⟩ := h.cells h0
  refine ⟨_, hA, ?_, fun j v hv => by rw [Addr.add_mid, Nat.zero_add]; exact hc j v hv⟩
  subst hA
  exact (h.lt g (by simp [bl])).2
theorem litG_reads {g : Nat} {cells : Array Value} (h : litG elem cells g w) (hn : cells.size = n * s) : Reads w w.heap.size s (some ⟨g, 0, none⟩) n cells.toList := by
  refine ⟨by simpa using hn, fun _ => ⟨_, rfl, (Array.getElem?_eq_some_iff.1 h).1, fun j u hu => ?_⟩⟩
  rw [Addr.add_mid, Nat.zero_add]
  unfold litG at h
  simp only [World.cell?, h, Option.isSome_none, Bool.false_eq_true, if_false]
  simpa using hu
theorem OwnR.lit {g : Nat} {cells : Array Value} (h : litG elem cells g w) (hn : cells.size = n * s) (hB : B ≤ g) (hm : n ≤ maxLen) : OwnR w B elem s (some ⟨g, 0, none⟩) n n cells.toList := by
  refine ⟨by simpa using hn, .inr ⟨g, n, cells, rfl, hB, h, Nat.le_refl _, hm, hn, ?_⟩⟩
  rw [List.take_of_length_le (by simp; omega)]
/-- Append: in place where there is room, else into a new block. -/
theorem appendR_m (hu : P.underlying t = some (.slice elem)) (hi : infoOf P elem = some (z, s, bytes)) (hzs : z.cells.size = s) (hs : 0 < s) (h : OwnR w B elem s A n c xs) (hB : B ≤ w.heap.size) (hr : Reads w w.heap.size s A2 m ys) (h1 : ∀ v ∈ ys, v.oneCell' = true)
    (hn : n + m ≤ 1000000) (hb : bytes ≤ 10000) :
    MutRun P w (bl A) (fun y : Option Addr × Nat => .slice y.1 (n + m) y.2) (fun y v => OwnR v B elem s y.1 (n + m) y.2 (xs ++ ys)) (appS t t (.slice A n c) (.slice A2 m cc)) := by
  unfold infoOf at hi
  obtain ⟨i, hi0, hi1⟩ := Option.bind_eq_some_iff.1 hi
  obtain ⟨z', hz, hi2⟩ := Option.map_eq_some_iff.1 hi1
  simp only [Prod.mk.injEq] at hi2
  obtain ⟨rfl, hsz, hby⟩ := hi2
  have hbytes : (n + m) * bytes ≤ 140737488355328 := Nat.le_trans (Nat.mul_le_mul hn hb) (by decide)
  obtain ⟨v', w', hrun, h2, h3, h4⟩ := run_append_any (P := P) w B t t elem i z' s bytes hu hi0 hz hsz hby hzs hs _ n _ h w.heap.size A2 m cc ys hr h1 (by simp only [maxLen]; omega) hbytes hB
  obtain ⟨A', c', rfl⟩ : ∃ A' c', v' = .slice A' (n + m) c' := by
    rcases h2.2 with ⟨h5, h0⟩ | ⟨g, cap, cur, h5, _⟩
    · exact ⟨none, 0, by rw [h5, h0]⟩
    · exact ⟨_, _, h5⟩
  have hown : OwnR w' B elem s A' (n + m) c' (xs ++ ys) := h2
  refine ⟨(A', c'), w', by simp only [appS, Sem.run_bind, hrun, Result.andThen_ok, Sem.run_pure], ⟨h3.os, h3.tape, h3.output, h3.size, fun k hk hL => h3.block k hk (fun e => hL ?_)⟩, fun w'' k1 k2 => hown.same fun b hb => k2 b ?_⟩
  · cases A with
    | none => simp [Value.ownBlock] at e
    | some p => simp [Value.ownBlock] at e; simp [bl, e]
  · have hlt := (hown.lt b hb).2
    cases A' with
    | none => cases hb
    | some p' =>
      simp only [bl, List.mem_singleton] at hb
      subst hb
      rcases h4 with e | e
      · left
        cases A with
        | none => simp [Value.ownBlock] at e
        | some p => simp [Value.ownBlock] at e; simp [bl, e]
      · right
        simp [Value.ownBlock] at e
        exact ⟨by omega, hlt⟩
theorem OwnR.ty (h : OwnR u B elem s A n c xs) : ∀ b ∈ bl A, ∃ cur own, u.heap[b]? = some (.cells cur elem own) := by
  intro b hb
  rcases h.2 with ⟨h1, _⟩ | ⟨g, cap, cur, h1, hB, hh, _⟩
  · injection h1 with h1 _ _
    subst h1; cases hb
  · injection h1 with h1 _ _
    subst h1
    simp only [bl, List.mem_singleton] at hb
    subst hb
    exact ⟨_, _, hh⟩
/-- Append where there is no room: only new memory. -/
theorem appendG_m {b a : Addr} (hu : P.underlying t = some (.slice elem)) (hi : infoOf P elem = some (z, s, bytes)) (hzs : z.cells.size = s) (hs : 0 < s) (hx : Reads w w.heap.size s (some b) n xs) (hr : Reads w w.heap.size s (some a) m ys)
    (hc : c < n + m) (hn : n + m ≤ 1000000) (hb : bytes ≤ 10000) (hB : B ≤ w.heap.size) (h0 : 0 < n ∨ xs = []) (h1 : 0 < m ∨ ys = []) :
    MakePost P w (fun y : Option Addr × Nat => .slice y.1 (n + m) y.2) (fun y v => OwnR v B elem s y.1 (n + m) y.2 (xs ++ ys)) (appS t t (.slice (some b) n c) (.slice (some a) m cc)) := by
  unfold infoOf at hi
  obtain ⟨i, hi0, hi1⟩ := Option.bind_eq_some_iff.1 hi
  obtain ⟨z', hz, hi2⟩ := Option.map_eq_some_iff.1 hi1
  simp only [Prod.mk.injEq] at hi2
  obtain ⟨rfl, hsz, hby⟩ := hi2
  have hbytes : (n + m) * bytes ≤ 140737488355328 := Nat.le_trans (Nat.mul_le_mul hn hb) (by decide)
  have rd : ∀ {b : Addr} {n : Nat} {xs : List Value}, Reads w w.heap.size s (some b) n xs → (0 < n ∨ xs = []) → ∀ j u, xs[j]? = some u → w.cell? (b.add j) = some u := fun hx h0 j u hj => by
    rcases h0 with h0 | h0
    · obtain ⟨ad, hA, _, hc⟩ := hx.2 h0
      injection hA with hA
      subst hA
      exact hc j u hj
    · subst h0; cases hj
  obtain ⟨v', w', hrun, h2, h3⟩ := run_append_arg_grows (P := P) w t t elem i z' s bytes hu hi0 hz hsz hby hzs hs b n c xs hx.1 (rd hx h0) a m cc ys hr.1 (rd hr h1) hc (by simp only [maxLen]; omega) hbytes
  obtain ⟨A', c', rfl⟩ : ∃ A' c', v' = .slice A' (n + m) c' := by
    rcases h2.2 with ⟨h5, h0⟩ | ⟨g, cap, cur, h5, _⟩
    · exact ⟨none, 0, by rw [h5, h0]⟩
    · exact ⟨_, _, h5⟩
  have hown : OwnR w' w.heap.size elem s A' (n + m) c' (xs ++ ys) := h2
  exact ⟨(A', c'), w', by simp only [appS, Sem.run_bind, hrun, Result.andThen_ok, Sem.run_pure], ⟨h3.os, h3.tape, h3.output, h3.size, fun k hk => h3.block k hk (by simp)⟩, fun w'' k1 k2 => (hown.same fun b hb => k2 b (hown.lt b hb).1 (hown.lt b hb).2).rebase fun b hb => Nat.le_trans hB (hown.lt b hb).1⟩
end

end Go.Proofs.Ytlpnjoenkohadaa
