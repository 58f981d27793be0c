/-
  Quoting: splitting into fields and lines, program and reference.
-/
import Derived.Test.YtgkiopplcpnajaaDoorVe
import Derived.Scope
namespace Go.Proofs.YtgkiopplcpnajaaDoor
set_option linter.unusedVariables false
set_option linter.unusedSimpArgs false
open Go.RowKit

/-- A function whose text is a scope (it names a loop), with no jump to a label. -/
def inScopeC (c : Cfg) : Option Cfg := match c.foc with
  | .code (.scope x) => match c.k with
    | [] => some ⟨.code x, [], c.st⟩
    | _ => none
  | _ => none
def amScope (c : Cfg) : Cfg := (inScopeC c).getD c
theorem Good.scope {P : Program} {Δ : List Deferred} {W : World} {fn : Func} {R : Ending → World → Prop} {Φ : World → Prop} {c : Cfg} (hc : (inScopeC c).isSome = true) (h : Good P Δ W (bodyPost P fn R) Φ (amScope c)) : Good P Δ W (bodyPost P fn R) Φ c := by
  obtain ⟨foc, k, σ⟩ := c
  unfold amScope at h
  unfold inScopeC at hc h
  simp only at hc h
  split at hc
  · rename_i x
    split at hc
    · replace h := h.get
      refine ⟨fun hwf β a w hr => wp_scope_straight (wp_mono (h hwf β a w hr) fun e a w hq => ?_)⟩
      cases e <;> first | exact hq | exact hq.elim
    · cases hc
  · cases hc
section
variable {w : World} {l : List UInt8} {o : Option (List UInt8)}
theorem run_frm {P : Program} {t : TypeId} {i : Nat} (ht : P.underlying t = some .string) (h : i ≤ l.length) : (fromA t (strOf l) i).run P w = .ok (.value (strOf (l.drop i))) w := by
  have := run_slice_string_l (P := P) w t ⟨l.toArray⟩ ht .i64 i (by omega) (by show (i : Int) ≤ ((l.length : Nat) : Int); omega)
  simp only [fromA, strOf, Sem.run_bind, sliceAtS ht, this, Result.andThen_ok, Sem.run_pure, Int.toNat_natCast]
  have e : (⟨l.toArray⟩ : ByteArray).extract i (⟨l.toArray⟩ : ByteArray).size = ⟨(l.drop i).toArray⟩ := by
    apply ByteArray.ext
    simp [ByteArray.data_extract, ByteArray.size, List.take_of_length_le]
  rw [e]
theorem unq_n (h : unqL l = none) (hl : l.length ≤ 90000000) : Calls Tryd.prog 10 #[strOf l] w (CallPost w (fun _ : Unit => .tuple #[strOf [], .int .i64 3]) fun _ _ => True) := unquote_m h hl
theorem unq_s {s : List UInt8} (h : unqL l = some s) (hl : l.length ≤ 90000000) : Calls Tryd.prog 10 #[strOf l] w (CallPost w (fun _ : Unit => .tuple #[strOf s, .int .i64 0]) fun _ _ => True) := unquote_m h hl
theorem runq_n (h : unqL l = none) (hl : l.length ≤ 10000) : Calls Tryd.prog 11 #[strOf l] w (CallPost w (fun _ : Unit => .tuple #[strOf [], .int .i64 3]) fun _ _ => True) := runquote_m h hl
theorem runq_s {s : List UInt8} (h : unqL l = some s) (hl : l.length ≤ 10000) : Calls Tryd.prog 11 #[strOf l] w (CallPost w (fun _ : Unit => .tuple #[strOf s, .int .i64 0]) fun _ _ => True) := runquote_m h hl
theorem cut_v {c : UInt8} {x r : List UInt8} {b : Bool} (h : cutC c l = (x, r, b)) (hM : ML w) (hl : l.length ≤ 100000000) : Calls Tryd.prog 30 #[strOf l, .string ⟨#[c]⟩] w (CallPost w (fun _ : Unit => .tuple #[strOf x, strOf r, .bool b]) fun _ _ => True) := by
  have := cut_m (w := w) (l := l) c hM hl
  rw [h] at this; exact this
theorem allW_cons {x : List UInt8} {t : List (List UInt8)} : allW (x :: t) = ((unqL x).isSome && allW t) := rfl
theorem unqAll_some {x s : List UInt8} {t : List (List UInt8)} (h : unqL x = some s) : unqAll (x :: t) = s :: unqAll t := by rw [unqAll, h]
theorem unqAll_none {x : List UInt8} {t : List (List UInt8)} (h : unqL x = none) : unqAll (x :: t) = [] := by rw [unqAll, h]
def fldV (B : Bool) (ps : List (List UInt8)) (y : Option Addr × Nat) : Value := match B with
  | true => .tuple #[.slice y.1 ps.length y.2, .int .i64 0, .int .i64 0]
  | false => .tuple #[.slice none 0 0, .int .i64 ps.length, .int .i64 3]
def fldG (B : Bool) (ps : List (List UInt8)) (y : Option Addr × Nat) (u : World) : Prop := match B with
  | true => StrAt u y.1 ps.length ps
  | false => True
theorem split_mem (c : UInt8) : ∀ (l : List UInt8), ∀ x ∈ splitBy c l, x.length ≤ l.length
  | [], x, h => by simp [splitBy] at h; subst h; exact Nat.le_refl _
  | b :: l, x, h => by
    have ih := split_mem c l
    rw [splitBy] at h
    split at h
    · rcases List.mem_cons.1 h with rfl | h
      · simp
      · have := ih x h; simp only [List.length_cons]; omega
    · cases hs : splitBy c l with
      | nil => exact absurd hs (splitBy_ne c l)
      | cons y t =>
        rw [hs] at h ih
        rcases List.mem_cons.1 h with rfl | h
        · have := ih y (by simp); simp only [List.length_cons]; omega
        · have := ih x (by simp [h]); simp only [List.length_cons]; omega
theorem strAt_nil : StrAt w none 0 [] := ⟨rfl, fun k s h => by simp at h⟩
set_option maxRecDepth 100000 in
set_option maxHeartbeats 1000000 in
theorem splitFields_m {B : Bool} {ps : List (List UInt8)} (hM : ML w) (hB : allW (wordsF l) = B) (hps : unqAll (wordsF l) = ps) (hl : l.length ≤ 10000000) : Calls Tryd.prog 15 #[strOf l] w (CallPost w (fun y : Option Addr × Nat => fldV B ps y) fun y u => fldG B ps y u) := by
  by_cases h0 : l = []
  · subst h0
    obtain rfl : B = true := by rw [← hB]; rfl
    obtain rfl : ps = [] := by rw [← hps]; rfl
    refine Good.enter Tryd.func15 rfl ?_
    refine Good.run (by kernel_rfl) (stop := 1000) 1000 _ ?_
    refine Good.scope (by kernel_rfl) ?_
    refine Good.run (by kernel_rfl) (stop := 1000) 1000 _ ?_
    refine Good.loop (ι := Unit) 39 (fun _ => ⟨[(0, .v (strOf [])), (5, .v (.slice none 0 0))], []⟩) (fun _ _ => True) (fun _ => 0) (()) (by kernel_rfl) (fun _ => by kernel_rfl) ⟨by kernel_rfl, by kernel_rfl, by kernel_rfl⟩ (fun _ _ => trivial) ?_
    rintro ⟨⟩ g
    refine Good.run (by kernel_rfl) (stop := 1) 1000 _ ?_
    refine Good.ask (opS .neq 9 (.tmp 13) (.const (.string ⟨#[]⟩)) (strOf []) (strOf [])) (.bool false) (by kernel_rfl) (fun w1 hw h => run_neS (by simp)) ?_
    refine Good.run (by kernel_rfl) (stop := 1000) 1000 _ ?_
    refine Good.cond false (by kernel_rfl) ?_
    refine Good.run (by kernel_rfl) (stop := 1000) 1000 _ ?_
    refine Good.leave (by kernel_rfl) ?_
    refine Good.run (by kernel_rfl) (stop := 1000) 1000 _ ?_
    refine Good.ret (v := .tuple #[.slice none 0 0, .int .i64 0, .int .i64 0]) (by kernel_rfl) (fun w1 hw h => ⟨(none, 0), rfl, hw, fun _ _ _ => strAt_nil⟩)
  have hw0 : wordsF l = splitBy 32 l := if_neg h0
  rw [hw0] at hB hps
  refine Good.enter Tryd.func15 rfl ?_
  refine Good.run (by kernel_rfl) (stop := 1000) 1000 _ ?_
  refine Good.scope (by kernel_rfl) ?_
  refine Good.run (by kernel_rfl) (stop := 1000) 1000 _ ?_
  refine Good.loop (ι := {q : (List UInt8 × Nat × List (List UInt8)) × (Option Addr × Nat) // q.1.2.1 + q.1.1.length ≤ l.length ∧ unqAll (splitBy 32 l) = q.1.2.2 ++ unqAll (splitBy 32 q.1.1) ∧ allW (splitBy 32 l) = allW (splitBy 32 q.1.1) ∧ q.1.2.2.length = q.1.2.1}) 39 (fun q => ⟨[(0, .v (strOf l)), (5, .v (.slice q.1.2.1 q.1.1.2.1 q.1.2.2)), (6, .v (strOf q.1.1.1))], []⟩) (fun q u => OwnR u w.heap.size 9 1 q.1.2.1 q.1.1.2.1 q.1.2.2 (sv q.1.1.2.2)) (fun q => q.1.1.1.length) (⟨((l, 0, []), (none, 0)), by simp, by simp, rfl, rfl⟩) (by kernel_rfl) (fun _ => by kernel_rfl) ⟨by kernel_rfl, by kernel_rfl, by kernel_rfl⟩ (fun u h => OwnR.nil_) ?_
  rintro ⟨⟨⟨r, m, p⟩, y, yc⟩, hk⟩ g
  have hk1 : m + r.length ≤ l.length := hk.1
  have hk2 : unqAll (splitBy 32 l) = p ++ unqAll (splitBy 32 r) := hk.2.1
  have hk3 : allW (splitBy 32 l) = allW (splitBy 32 r) := hk.2.2.1
  have hk4 : p.length = m := hk.2.2.2
  obtain ⟨x, r2, b, hcut⟩ : ∃ x r2 b, cutC 32 r = (x, r2, b) := ⟨_, _, _, rfl⟩
  have hxl : x.length ≤ r.length := by
    cases b
    · have h1 := cut_not 32 (l := r) (by rw [hcut]); rw [hcut] at h1; have h2 : x = r := h1.2; rw [h2]; exact Nat.le_refl _
    · have h1 := cut_yes 32 (l := r) (by rw [hcut]); rw [hcut] at h1; have h2 : x.length + r2.length + 1 = r.length := h1.2; omega
  have hsp : ∃ t, splitBy 32 r = x :: t := by
    cases b
    · have h1 := cut_not 32 (l := r) (by rw [hcut]); rw [hcut] at h1; have h2 : x = r := h1.2; exact ⟨[], by rw [h1.1, h2]⟩
    · have h1 := cut_yes 32 (l := r) (by rw [hcut]); rw [hcut] at h1; exact ⟨_, h1.1⟩
  refine Good.run (by kernel_rfl) (stop := 1) 1000 _ ?_
  refine Good.ask (opS .neq 9 (.tmp 13) (.const (.string ⟨#[]⟩)) (strOf l) (strOf [])) (.bool true) (by kernel_rfl) (fun w1 hw h => run_neS (by simpa using h0)) ?_
  refine Good.run (by kernel_rfl) (stop := 1000) 1000 _ ?_
  refine Good.cond true (by kernel_rfl) ?_
  refine Good.run (by kernel_rfl) (stop := 1000) 1000 _ ?_
  refine Good.callv (fun w1 hw h => cut_v hcut (hM.below hw) (show r.length ≤ _ from by omega)) (by kernel_rfl) (fun u => ?_)
  refine Good.run (by kernel_rfl) (stop := 1000) 1000 _ ?_
  cases hu : unqL x with
  | none =>
    obtain ⟨t, ht⟩ := hsp
    obtain rfl : B = false := by rw [← hB, hk3, ht, allW_cons, hu]; rfl
    obtain rfl : ps = p := by rw [← hps, hk2, ht, unqAll_none hu, List.append_nil]
    refine Good.callv (fun w1 hw h => unq_n hu (by omega)) (by kernel_rfl) (fun u => ?_)
    refine Good.run (by kernel_rfl) (stop := 1000) 1000 _ ?_
    refine Good.cond true (by kernel_rfl) ?_
    refine Good.run (by kernel_rfl) (stop := 1000) 1000 _ ?_
    refine Good.leave (by kernel_rfl) ?_
    refine Good.run (by kernel_rfl) (stop := 1000) 1000 _ ?_
    refine Good.ret (v := .tuple #[.slice none 0 0, .int .i64 m, .int .i64 3]) (by kernel_rfl) (fun w1 hw h => ⟨(none, 0), by rw [← hk4]; rfl, hw, fun _ _ _ => trivial⟩)
  | some s =>
    refine Good.callv (fun w1 hw h => unq_s hu (by omega)) (by kernel_rfl) (fun u => ?_)
    refine Good.run (by kernel_rfl) (stop := 1000) 1000 _ ?_
    refine Good.cond false (by kernel_rfl) ?_
    refine Good.run (by kernel_rfl) (stop := 2) 1000 _ ?_
    refine Good.make (litS 28 1 #[(0, strOf s)]) (litV 1) (litG 9 #[strOf s]) (by kernel_rfl) (fun w1 hw h => make_lit (by kernel_rfl)) (fun gb => ?_)
    refine Good.run (by kernel_rfl) (stop := 3) 1000 _ ?_
    refine Good.mutOp (L := bl y) (val := fun (z : Option Addr × Nat) => .slice z.1 (m + 1) z.2) (Φ' := fun (z : Option Addr × Nat) v => OwnR v w.heap.size 9 1 z.1 (m + 1) z.2 (sv (p ++ [s]))) (G := fun (z : Option Addr × Nat) v => OwnR v w.heap.size 9 1 z.1 (m + 1) z.2 (sv (p ++ [s]))) (appS 28 28 (.slice y m yc) (litV 1 gb)) (fun w1 hw h => by have ho : OwnR w1 w.heap.size 9 1 y m yc (sv p) := h.1.1.1; exact app_str ho hw.size h.2 (show m < 100000000 from by omega)) (fun w1 h => fun b hb => ⟨((show OwnR w1 w.heap.size 9 1 y m yc (sv p) from h.1.1.1).lt b hb).1, ((show OwnR w1 w.heap.size 9 1 y m yc (sv p) from h.1.1.1).blk b hb).2⟩) (fun z wa w1 e1 e2 h hG => hG) (by kernel_rfl) (by kernel_rfl) (fun z => ?_)
    refine Good.run (by kernel_rfl) (stop := 1000) 1000 _ ?_
    cases b
    · have h1 := cut_not 32 (l := r) (by rw [hcut])
      rw [hcut] at h1
      have hx : x = r := h1.2
      have h1' : splitBy 32 r = [x] := by rw [h1.1, hx]
      obtain rfl : B = true := by rw [← hB, hk3, h1', allW_cons, hu]; rfl
      obtain rfl : ps = p ++ [s] := by rw [← hps, hk2, h1', unqAll_some hu]; rfl
      refine Good.cond true (by kernel_rfl) ?_
      refine Good.run (by kernel_rfl) (stop := 1000) 1000 _ ?_
      refine Good.leave (by kernel_rfl) ?_
      refine Good.run (by kernel_rfl) (stop := 1000) 1000 _ ?_
      refine Good.ret (v := .tuple #[.slice z.1 (m + 1) z.2, .int .i64 0, .int .i64 0]) (by kernel_rfl) (fun w1 hw h => ⟨z, by show _ = Ending.returned (Value.tuple #[.slice z.1 (p ++ [s]).length z.2, .int .i64 0, .int .i64 0]); rw [List.length_append, hk4]; rfl, hw, fun w'' k1 k2 => by have h9 := (show OwnR w'' w.heap.size 9 1 z.1 (m + 1) z.2 (sv (p ++ [s])) from h w'' k1 k2).strs; show StrAt w'' z.1 (p ++ [s]).length (p ++ [s]); rw [h9.1]; exact h9⟩)
    · have h1 := cut_yes 32 (l := r) (by rw [hcut])
      rw [hcut] at h1
      have h1a : splitBy 32 r = x :: splitBy 32 r2 := h1.1
      have h1b : x.length + r2.length + 1 = r.length := h1.2
      refine Good.cond false (by kernel_rfl) ?_
      refine Good.run (by kernel_rfl) (stop := 1000) 1000 _ ?_
      refine Good.next (⟨((r2, m + 1, p ++ [s]), z), by show m + 1 + r2.length ≤ l.length; omega, by show _ = (p ++ [s]) ++ unqAll (splitBy 32 r2); rw [hk2, h1a, unqAll_some hu]; simp, by show _ = allW (splitBy 32 r2); rw [hk3, h1a, allW_cons, hu]; rfl, by simp [hk4]⟩) (by kernel_rfl) (by show r2.length < r.length; omega) ⟨by kernel_rfl, by kernel_rfl, by kernel_rfl⟩ (fun _ h => h)
theorem sf_s (hM : ML w) (hB : allW (wordsF l) = true) (hl : l.length ≤ 10000000) : Calls Tryd.prog 15 #[strOf l] w (CallPost w (fun y : Option Addr × Nat => .tuple #[.slice y.1 (unqAll (wordsF l)).length y.2, .int .i64 0, .int .i64 0]) fun y u => StrAt u y.1 (unqAll (wordsF l)).length (unqAll (wordsF l))) := splitFields_m hM hB rfl hl
theorem sf_n (hM : ML w) (hB : allW (wordsF l) = false) (hl : l.length ≤ 10000000) : Calls Tryd.prog 15 #[strOf l] w (CallPost w (fun _ : Option Addr × Nat => .tuple #[.slice none 0 0, .int .i64 (unqAll (wordsF l)).length, .int .i64 3]) fun _ _ => True) := splitFields_m hM hB rfl hl
set_option maxRecDepth 100000 in
set_option maxHeartbeats 1000000 in
theorem rcut_m (c : UInt8) (hl : l.length ≤ 20000) : Calls Tryd.prog 31 #[strOf l, .int .u8 c.toNat] w (CallPost w (fun y : Option Addr × Nat => .slice y.1 (splitBy c l).length y.2) fun y u => OwnR u 0 9 1 y.1 (splitBy c l).length y.2 (sv (splitBy c l))) := by
  refine Good.enter Tryd.func31 rfl ?_
  refine Good.run (by kernel_rfl) (stop := 1000) 1000 _ ?_
  refine Good.loop (ι := {q : (Nat × Nat × Nat × List (List UInt8)) × (Option Addr × Nat) // q.1.1 ≤ l.length ∧ q.1.2.1 ≤ q.1.1 ∧ q.1.2.2.2.length = q.1.2.2.1 ∧ q.1.2.2.1 ≤ q.1.1 ∧ splitBy c l = q.1.2.2.2 ++ splitBy c (l.drop q.1.2.1) ∧ ∀ j, q.1.2.1 ≤ j → j < q.1.1 → l[j]? ≠ some c}) 34 (fun q => ⟨[(0, .v (strOf l)), (1, .v (.int .u8 c.toNat)), (5, .v (.slice q.1.2.1 q.1.1.2.2.1 q.1.2.2)), (6, .v (.int .i64 q.1.1.2.1)), (7, .v (.int .i64 q.1.1.1))], []⟩) (fun q u => OwnR u w.heap.size 9 1 q.1.2.1 q.1.1.2.2.1 q.1.2.2 (sv q.1.1.2.2.2)) (fun q => l.length - q.1.1.1) (⟨((0, 0, 0, []), (none, 0)), by simp, Nat.le_refl _, rfl, Nat.le_refl _, by simp, fun j h1 h2 => by simp at h2⟩) (by kernel_rfl) (fun _ => by kernel_rfl) ⟨by kernel_rfl, by kernel_rfl, by kernel_rfl⟩ (fun u h => OwnR.nil_) ?_
  rintro ⟨⟨⟨i, at_, m, p⟩, y, yc⟩, hk⟩ g
  have hk1 : i ≤ l.length := hk.1
  have hk2 : at_ ≤ i := hk.2.1
  have hk3 : p.length = m := hk.2.2.1
  have hk4 : m ≤ i := hk.2.2.2.1
  have hk5 : splitBy c l = p ++ splitBy c (l.drop at_) := hk.2.2.2.2.1
  have hk6 : ∀ j, at_ ≤ j → j < i → l[j]? ≠ some c := hk.2.2.2.2.2
  have hno : c ∉ (l.take i).drop at_ := fun hm => by
    obtain ⟨j, hj, e⟩ := List.getElem_of_mem hm
    have hj2 : j < i - at_ := by simp only [List.length_drop, List.length_take] at hj; omega
    refine hk6 (at_ + j) (by omega) (by omega) ?_
    rw [← e, List.getElem_drop, List.getElem_take]
    exact List.getElem?_eq_getElem (by omega)
  by_cases hlt : i < l.length
  ·
    refine Good.run (by kernel_rfl) (stop := 1000) 1000 _ ?_
    refine Good.condr (decide ((i : Int) < (l.length : Int))) true (by kernel_rfl) (by simp; omega) ?_
    refine Good.run (by kernel_rfl) (stop := 2) 1000 _ ?_
    obtain ⟨b, hb⟩ : ∃ b, l[i]? = some b := ⟨_, List.getElem?_eq_getElem hlt⟩
    refine Good.ask (ixS 9 (strOf l) i) (.int .u8 b.toNat) (by kernel_rfl) (fun w1 hw h => run_ixP (by kernel_rfl) hb) ?_
    refine Good.run (by kernel_rfl) (stop := 1000) 1000 _ ?_
    by_cases hbc : b = c
    · subst hbc
      have hsp : splitBy b (l.drop at_) = (l.take i).drop at_ :: splitBy b (l.drop (i + 1)) := by
        have e : l.drop at_ = (l.take i).drop at_ ++ b :: l.drop (i + 1) := by
          have h1 : l = l.take i ++ (b :: l.drop (i + 1)) := by rw [← drop_at hb]; exact (List.take_append_drop i l).symm
          conv => lhs; rw [h1]
          rw [List.drop_append_of_le_length (by simp; omega)]
        rw [e, splitBy_app _ hno]
      refine Good.condr ((((b.toNat : Nat) : Int) == ((b.toNat : Nat) : Int))) true (by kernel_rfl) (by simp) ?_
      refine Good.run (by kernel_rfl) (stop := 4) 1000 _ ?_
      refine Good.ask (slC 9 (strOf l) .i64 at_ i) (strOf ((l.take i).drop at_)) (by kernel_rfl) (fun w1 hw h => run_slC (by kernel_rfl) hk2 hk1) ?_
      refine Good.run (by kernel_rfl) (stop := 5) 1000 _ ?_
      refine Good.make (litS 28 1 #[(0, strOf ((l.take i).drop at_))]) (litV 1) (litG 9 #[strOf ((l.take i).drop at_)]) (by kernel_rfl) (fun w1 hw h => make_lit (by kernel_rfl)) (fun gb => ?_)
      refine Good.run (by kernel_rfl) (stop := 6) 1000 _ ?_
      refine Good.mutOp (L := bl y) (val := fun (z : Option Addr × Nat) => .slice z.1 (m + 1) z.2) (Φ' := fun (z : Option Addr × Nat) v => OwnR v w.heap.size 9 1 z.1 (m + 1) z.2 (sv (p ++ [(l.take i).drop at_]))) (G := fun (z : Option Addr × Nat) v => OwnR v w.heap.size 9 1 z.1 (m + 1) z.2 (sv (p ++ [(l.take i).drop at_]))) (appS 28 28 (.slice y m yc) (litV 1 gb)) (fun w1 hw h => by have ho : OwnR w1 w.heap.size 9 1 y m yc (sv p) := h.1; exact app_str ho hw.size h.2 (show m < 100000000 from by omega)) (fun w1 h => fun b hb => ⟨((show OwnR w1 w.heap.size 9 1 y m yc (sv p) from h.1).lt b hb).1, ((show OwnR w1 w.heap.size 9 1 y m yc (sv p) from h.1).blk b hb).2⟩) (fun z wa w1 e1 e2 h hG => hG) (by kernel_rfl) (by kernel_rfl) (fun z => ?_)
      refine Good.run (by kernel_rfl) (stop := 1000) 1000 _ ?_
      refine Good.slot 6 (.int .i64 (IntKind.i64.wrap ((i : Int) + 1))) (.int .i64 ((i + 1 : Nat) : Int)) (by kernel_rfl) (by rw [wrap_succ hlt (by omega)]) ?_
      refine Good.slot 7 (.int .i64 (IntKind.i64.wrap ((i : Int) + 1))) (.int .i64 ((i + 1 : Nat) : Int)) (by kernel_rfl) (by rw [wrap_succ hlt (by omega)]) ?_
      refine Good.next (⟨((i + 1, i + 1, m + 1, p ++ [(l.take i).drop at_]), z), by show i + 1 ≤ l.length; omega, Nat.le_refl _, by simp [hk3], by show m + 1 ≤ i + 1; omega, by show _ = (p ++ [(l.take i).drop at_]) ++ splitBy b (l.drop (i + 1)); rw [hk5, hsp]; simp, fun j h1 h2 => by have h1' : i + 1 ≤ j := h1; have h2' : j < i + 1 := h2; omega⟩) (by kernel_rfl) (by show l.length - (i + 1) < l.length - i; omega) ⟨by kernel_rfl, by kernel_rfl, by kernel_rfl⟩ (fun _ h => h)
    ·
      refine Good.condr ((((b.toNat : Nat) : Int) == ((c.toNat : Nat) : Int))) false (by kernel_rfl) (by rw [beq_eq_false_iff_ne]; intro e; exact hbc (UInt8.toNat_inj.1 (by omega))) ?_
      refine Good.run (by kernel_rfl) (stop := 1000) 1000 _ ?_
      refine Good.slot 7 (.int .i64 (IntKind.i64.wrap ((i : Int) + 1))) (.int .i64 ((i + 1 : Nat) : Int)) (by kernel_rfl) (by rw [wrap_succ hlt (by omega)]) ?_
      refine Good.next (⟨((i + 1, at_, m, p), (y, yc)), by show i + 1 ≤ l.length; omega, by show at_ ≤ i + 1; omega, hk3, by show m ≤ i + 1; omega, hk5, fun j h1 h2 => by have h1' : at_ ≤ j := h1; have h2' : j < i + 1 := h2; by_cases e : j = i; rw [e, hb]; simpa using hbc; exact hk6 j h1' (by omega)⟩) (by kernel_rfl) (by show l.length - (i + 1) < l.length - i; omega) ⟨by kernel_rfl, by kernel_rfl, by kernel_rfl⟩ (fun _ h => h)
  · obtain rfl : i = l.length := by omega
    have hsp : splitBy c l = p ++ [l.drop at_] := by
      rw [List.take_length] at hno
      rw [hk5, splitBy_one hno]
    refine Good.run (by kernel_rfl) (stop := 1000) 1000 _ ?_
    refine Good.condr (decide ((l.length : Int) < (l.length : Int))) false (by kernel_rfl) (by simp) ?_
    refine Good.run (by kernel_rfl) (stop := 1000) 1000 _ ?_
    refine Good.leave (by kernel_rfl) ?_
    refine Good.run (by kernel_rfl) (stop := 3) 1000 _ ?_
    refine Good.ask (fromA 9 (strOf l) at_) (strOf (l.drop at_)) (by kernel_rfl) (fun w1 hw h => run_frm (by kernel_rfl) hk2) ?_
    refine Good.run (by kernel_rfl) (stop := 4) 1000 _ ?_
    refine Good.make (litS 28 1 #[(0, strOf (l.drop at_))]) (litV 1) (litG 9 #[strOf (l.drop at_)]) (by kernel_rfl) (fun w1 hw h => make_lit (by kernel_rfl)) (fun gb => ?_)
    refine Good.run (by kernel_rfl) (stop := 5) 1000 _ ?_
    refine Good.mutOp (L := bl y) (val := fun (z : Option Addr × Nat) => .slice z.1 (m + 1) z.2) (Φ' := fun (z : Option Addr × Nat) v => OwnR v w.heap.size 9 1 z.1 (m + 1) z.2 (sv (p ++ [l.drop at_]))) (G := fun (z : Option Addr × Nat) v => OwnR v w.heap.size 9 1 z.1 (m + 1) z.2 (sv (p ++ [l.drop at_]))) (appS 28 28 (.slice y m yc) (litV 1 gb)) (fun w1 hw h => by have ho : OwnR w1 w.heap.size 9 1 y m yc (sv p) := h.1; exact app_str ho hw.size h.2 (show m < 100000000 from by omega)) (fun w1 h => fun b hb => ⟨((show OwnR w1 w.heap.size 9 1 y m yc (sv p) from h.1).lt b hb).1, ((show OwnR w1 w.heap.size 9 1 y m yc (sv p) from h.1).blk b hb).2⟩) (fun z wa w1 e1 e2 h hG => hG) (by kernel_rfl) (by kernel_rfl) (fun z => ?_)
    refine Good.run (by kernel_rfl) (stop := 1000) 1000 _ ?_
    refine Good.ret (v := .slice z.1 (m + 1) z.2) (by kernel_rfl) (fun w1 hw h => ⟨z, by rw [hsp, List.length_append, hk3]; rfl, hw, fun w'' k1 k2 => by have h9 : OwnR w'' w.heap.size 9 1 z.1 (m + 1) z.2 (sv (p ++ [l.drop at_])) := h w'' k1 k2; have e : (splitBy c l).length = m + 1 := by { rw [hsp, List.length_append, hk3]; rfl }; rw [e, hsp]; exact h9.rebase fun _ _ => Nat.zero_le _⟩)
theorem rcut_f {B : Nat} (c : UInt8) (hl : l.length ≤ 20000) (hB : B ≤ w.heap.size) : Calls Tryd.prog 31 #[strOf l, .int .u8 c.toNat] w (CallPost w (fun o : (Option Addr × Nat) × Nat => .slice o.1.1 (splitBy c l).length o.1.2) fun o u => OwnR u 0 9 1 o.1.1 (splitBy c l).length o.1.2 (sv (splitBy c l)) ∧ (∀ b ∈ bl o.1.1, b < o.2) ∧ B ≤ o.2 ∧ o.2 ≤ u.heap.size) :=
  (rcut_m c hl).mono fun e w' k => by
    obtain ⟨q, h1, h2, h3⟩ := CallPost.fresh k (fun y => bl y.1) (fun y u h b hb => (h.blk b hb).2)
    refine ⟨q, h1, h2, fun w'' k1 k2 => ?_⟩
    obtain ⟨h4, h5, h6⟩ := h3 w'' k1 k2
    have hne : 0 < (splitBy c l).length := List.length_pos_iff.2 (splitBy_ne c l)
    obtain ⟨g, hg, _⟩ := (own_cap h4).2 hne
    have h7 := h5 g (by show g ∈ bl q.1.1; rw [hg]; simp [bl])
    exact ⟨h4, fun b hb => (h5 b hb).2, by omega, h6⟩
set_option maxRecDepth 100000 in
set_option maxHeartbeats 1000000 in
theorem rsplitFields_m {B : Bool} {ps : List (List UInt8)} (hB : allW (wordsF l) = B) (hps : unqAll (wordsF l) = ps) (hl : l.length ≤ 10000) : Calls Tryd.prog 16 #[strOf l] w (CallPost w (fun y : Option Addr × Nat => fldV B ps y) fun y u => fldG B ps y u) := by
  by_cases h0 : l = []
  · subst h0
    obtain rfl : B = true := by rw [← hB]; rfl
    obtain rfl : ps = [] := by rw [← hps]; rfl
    refine Good.enter Tryd.func16 rfl ?_
    refine Good.run (by kernel_rfl) (stop := 1) 1000 _ ?_
    refine Good.run (by kernel_rfl) (stop := 1000) 2 _ ?_
    refine Good.run (by kernel_rfl) (stop := 1) 1000 _ ?_
    refine Good.ask (opS .eql 9 (.tmp 10) (.const (.string ⟨#[]⟩)) (strOf []) (strOf [])) (.bool true) (by kernel_rfl) (fun w1 hw h => run_eqS (by simp)) ?_
    refine Good.run (by kernel_rfl) (stop := 1000) 1000 _ ?_
    refine Good.cond true (by kernel_rfl) ?_
    refine Good.run (by kernel_rfl) (stop := 1000) 1000 _ ?_
    refine Good.ret (v := .tuple #[.slice none 0 0, .int .i64 0, .int .i64 0]) (by kernel_rfl) (fun w1 hw h => ⟨(none, 0), rfl, hw, fun _ _ _ => strAt_nil⟩)
  have hw0 : wordsF l = splitBy 32 l := if_neg h0
  rw [hw0] at hB hps
  obtain ⟨ws, hws⟩ : ∃ ws, ws = splitBy 32 l := ⟨_, rfl⟩
  have hwl : ws.length ≤ l.length + 1 := by rw [hws, split_count]; have := List.count_le_length (a := (32 : UInt8)) (l := l); omega
  have hmem : ∀ x ∈ ws, x.length ≤ l.length := by rw [hws]; exact split_mem 32 l
  refine Good.enter Tryd.func16 rfl ?_
  refine Good.run (by kernel_rfl) (stop := 1) 1000 _ ?_
  refine Good.run (by kernel_rfl) (stop := 1000) 2 _ ?_
  refine Good.run (by kernel_rfl) (stop := 1) 1000 _ ?_
  refine Good.ask (opS .eql 9 (.tmp 10) (.const (.string ⟨#[]⟩)) (strOf l) (strOf [])) (.bool false) (by kernel_rfl) (fun w1 hw h => run_eqS (by simpa using h0)) ?_
  refine Good.run (by kernel_rfl) (stop := 1000) 1000 _ ?_
  refine Good.cond false (by kernel_rfl) ?_
  refine Good.run (by kernel_rfl) (stop := 1000) 1000 _ ?_
  refine Good.callv (fun w1 hw h => rcut_f (l := l) (B := w.heap.size) 32 (by omega) hw.size) (by kernel_rfl) (fun wy => ?_)
  obtain ⟨wy, N⟩ := wy
  rw [← hws] at hB hps ⊢
  refine Good.run (by kernel_rfl) (stop := 1000) 1000 _ ?_
  refine Good.loop (ι := {q : (Nat × List (List UInt8)) × (Option Addr × Nat) // q.1.1 ≤ ws.length ∧ unqAll ws = q.1.2 ++ unqAll (ws.drop q.1.1) ∧ allW ws = allW (ws.drop q.1.1) ∧ q.1.2.length = q.1.1}) 37 (fun q => ⟨[(0, .v (strOf l)), (5, .v (.slice wy.1 ws.length wy.2)), (6, .v (.slice q.1.2.1 q.1.1.1 q.1.2.2)), (7, .v (.int .i64 q.1.1.1))], []⟩) (fun q u => (OwnR u 0 9 1 wy.1 ws.length wy.2 (sv ws) ∧ (∀ b ∈ bl wy.1, b < N) ∧ w.heap.size ≤ N ∧ N ≤ u.heap.size) ∧ OwnR u N 9 1 q.1.2.1 q.1.1.1 q.1.2.2 (sv q.1.1.2)) (fun q => ws.length - q.1.1.1) (⟨((0, []), (none, 0)), Nat.zero_le _, by simp, by simp, rfl⟩) (by kernel_rfl) (fun _ => by kernel_rfl) ⟨by kernel_rfl, by kernel_rfl, by kernel_rfl⟩ (fun u h => ⟨h.2, OwnR.nil_⟩) ?_
  rintro ⟨⟨⟨m, p⟩, y, yc⟩, hk⟩ g
  have hk1 : m ≤ ws.length := hk.1
  have hk2 : unqAll ws = p ++ unqAll (ws.drop m) := hk.2.1
  have hk3 : allW ws = allW (ws.drop m) := hk.2.2.1
  have hk4 : p.length = m := hk.2.2.2
  by_cases hlt : m < ws.length
  · obtain ⟨x, hx⟩ : ∃ x, ws[m]? = some x := ⟨_, List.getElem?_eq_getElem hlt⟩
    have hxl := hmem x (List.mem_of_getElem? hx)
    have hdrop : ws.drop m = x :: ws.drop (m + 1) := by
      obtain ⟨h1, h2⟩ := List.getElem?_eq_some_iff.1 hx
      rw [List.drop_eq_getElem_cons h1, h2]
    rw [hdrop] at hk2 hk3
    refine Good.run (by kernel_rfl) (stop := 1000) 1000 _ ?_
    refine Good.condr (decide ((m : Int) < (ws.length : Int))) true (by kernel_rfl) (by simp; omega) ?_
    refine Good.run (by kernel_rfl) (stop := 1000) 1000 _ ?_
    refine Good.pure_ (p := ∃ ad, wy.1 = some ad) (fun u hu h => (by obtain ⟨g, hg, _⟩ := (own_cap h.1.1).2 (by omega); exact ⟨_, hg⟩)) (by kernel_rfl) (fun hwy => ?_)
    obtain ⟨ad, hA⟩ := hwy
    refine Good.ask (idxS 28 (.slice wy.1 ws.length wy.2) m) (.pointer (some (ad.add m))) (by kernel_rfl) (fun w1 hw h => by rw [hA]; exact run_idxS (elem := 9) (by kernel_rfl) (by kernel_rfl) hlt) ?_
    refine Good.run (by kernel_rfl) (stop := 1000) 1000 _ ?_
    refine Good.ask (ldS 9 (ad.add m)) (strOf x) (by kernel_rfl) (fun w1 hw h => run_ldS (by kernel_rfl) (by obtain ⟨ad2, h3, h4⟩ := h.1.1.strs.2 m x hx; rw [hA] at h3; cases h3; exact h4)) ?_
    refine Good.run (by kernel_rfl) (stop := 1000) 1000 _ ?_
    cases hu : unqL x with
    | none =>
      obtain rfl : B = false := by rw [← hB, hk3, allW_cons, hu]; rfl
      obtain rfl : ps = p := by rw [← hps, hk2, unqAll_none hu, List.append_nil]
      refine Good.callv (fun w1 hw h => runq_n hu (by omega)) (by kernel_rfl) (fun u => ?_)
      refine Good.run (by kernel_rfl) (stop := 1000) 1000 _ ?_
      refine Good.cond true (by kernel_rfl) ?_
      refine Good.run (by kernel_rfl) (stop := 1000) 1000 _ ?_
      refine Good.leave (by kernel_rfl) ?_
      refine Good.run (by kernel_rfl) (stop := 1000) 1000 _ ?_
      refine Good.ret (v := .tuple #[.slice none 0 0, .int .i64 m, .int .i64 3]) (by kernel_rfl) (fun w1 hw h => ⟨(none, 0), by rw [← hk4]; rfl, hw, fun _ _ _ => trivial⟩)
    | some s =>
      refine Good.callv (fun w1 hw h => runq_s hu (by omega)) (by kernel_rfl) (fun u => ?_)
      refine Good.run (by kernel_rfl) (stop := 1000) 1000 _ ?_
      refine Good.cond false (by kernel_rfl) ?_
      refine Good.run (by kernel_rfl) (stop := 2) 1000 _ ?_
      refine Good.make (litS 28 1 #[(0, strOf s)]) (litV 1) (litG 9 #[strOf s]) (by kernel_rfl) (fun w1 hw h => make_lit (by kernel_rfl)) (fun gb => ?_)
      refine Good.run (by kernel_rfl) (stop := 3) 1000 _ ?_
      refine Good.mutOp (L := bl y) (val := fun (z : Option Addr × Nat) => .slice z.1 (m + 1) z.2) (Φ' := fun (z : Option Addr × Nat) v => (OwnR v 0 9 1 wy.1 ws.length wy.2 (sv ws) ∧ (∀ b ∈ bl wy.1, b < N) ∧ w.heap.size ≤ N ∧ N ≤ v.heap.size) ∧ OwnR v N 9 1 z.1 (m + 1) z.2 (sv (p ++ [s]))) (G := fun (z : Option Addr × Nat) v => OwnR v N 9 1 z.1 (m + 1) z.2 (sv (p ++ [s]))) (appS 28 28 (.slice y m yc) (litV 1 gb)) (fun w1 hw h => by have ho : OwnR w1 N 9 1 y m yc (sv p) := h.1.1.2; exact app_str ho h.1.1.1.2.2.2 h.2 (show m < 100000000 from by omega)) (fun w1 h => fun b hb => ⟨Nat.le_trans h.1.1.1.2.2.1 ((show OwnR w1 N 9 1 y m yc (sv p) from h.1.1.2).lt b hb).1, ((show OwnR w1 N 9 1 y m yc (sv p) from h.1.1.2).blk b hb).2⟩) (fun z wa w1 e1 e2 h hG => ⟨⟨(h.1.1.1.1).left e2 (fun b hb hb2 => by have h1 := h.1.1.1.2.1 b hb; have h2 := ((show OwnR wa N 9 1 y m yc (sv p) from h.1.1.2).lt b hb2).1; omega), h.1.1.1.2.1, h.1.1.1.2.2.1, by rw [← e1]; exact h.1.1.1.2.2.2⟩, hG⟩) (by kernel_rfl) (by kernel_rfl) (fun z => ?_)
      refine Good.run (by kernel_rfl) (stop := 1000) 1000 _ ?_
      refine Good.slot 7 (.int .i64 (IntKind.i64.wrap ((m : Int) + 1))) (.int .i64 ((m + 1 : Nat) : Int)) (by kernel_rfl) (by rw [wrap_succ hlt (by omega)]) ?_
      refine Good.next (⟨((m + 1, p ++ [s]), z), by show m + 1 ≤ ws.length; omega, by show _ = (p ++ [s]) ++ unqAll (ws.drop (m + 1)); rw [hk2, unqAll_some hu]; simp, by show _ = allW (ws.drop (m + 1)); rw [hk3, allW_cons, hu]; rfl, by simp [hk4]⟩) (by kernel_rfl) (by show ws.length - (m + 1) < ws.length - m; omega) ⟨by kernel_rfl, by kernel_rfl, by kernel_rfl⟩ (fun _ h => h)
  · have hd : ws.drop m = [] := List.drop_of_length_le (by omega)
    rw [hd] at hk2 hk3
    obtain rfl : B = true := by rw [← hB, hk3]; rfl
    obtain rfl : ps = p := by rw [← hps, hk2]; show p ++ [] = p; rw [List.append_nil]
    refine Good.run (by kernel_rfl) (stop := 1000) 1000 _ ?_
    refine Good.condr (decide ((m : Int) < (ws.length : Int))) false (by kernel_rfl) (by simp; omega) ?_
    refine Good.run (by kernel_rfl) (stop := 1000) 1000 _ ?_
    refine Good.leave (by kernel_rfl) ?_
    refine Good.run (by kernel_rfl) (stop := 1000) 1000 _ ?_
    refine Good.ret (v := .tuple #[.slice y m yc, .int .i64 0, .int .i64 0]) (by kernel_rfl) (fun w1 hw h => ⟨(y, yc), by rw [← hk4]; rfl, hw, fun w'' k1 k2 => by have h9 := (show OwnR w'' N 9 1 y m yc (sv ps) from (h w'' k1 k2).2).strs; show StrAt w'' y ps.length ps; rw [hk4]; exact h9⟩)
theorem rsf_s (hB : allW (wordsF l) = true) (hl : l.length ≤ 10000) : Calls Tryd.prog 16 #[strOf l] w (CallPost w (fun y : Option Addr × Nat => .tuple #[.slice y.1 (unqAll (wordsF l)).length y.2, .int .i64 0, .int .i64 0]) fun y u => StrAt u y.1 (unqAll (wordsF l)).length (unqAll (wordsF l))) := rsplitFields_m hB rfl hl
theorem rsf_n (hB : allW (wordsF l) = false) (hl : l.length ≤ 10000) : Calls Tryd.prog 16 #[strOf l] w (CallPost w (fun _ : Option Addr × Nat => .tuple #[.slice none 0 0, .int .i64 (unqAll (wordsF l)).length, .int .i64 3]) fun _ _ => True) := rsplitFields_m hB rfl hl
end

end Go.Proofs.YtgkiopplcpnajaaDoor
