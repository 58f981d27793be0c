/-
  Paths as text: parsing.
-/
import Derived.Test.YtlpnjoenkohadaaDoorZU
namespace Go.Proofs.YtlpnjoenkohadaaDoor
set_option linter.unusedVariables false
set_option linter.unusedSimpArgs false
open Go.RowKit

def verbI (x : List UInt8) : Int := if x = [77] then 1 else if x = [76] then 2 else if x = [81] then 3 else if x = [67] then 4 else if x = [90] then 5 else 0
def wnE (x : List UInt8) : Int := if piE x = 0 then 0 else if piE x = 6 then 6 else 3
def numE (ws : List (List UInt8)) (i : Nat) : Int := match ws[i]? with
  | none => 3
  | some x => wnE x
def numV (ws : List (List UInt8)) (i : Nat) : Int := match ws[i]? with
  | none => 0
  | some x => piV x
/-- The first of m words from i on that is no number. -/
def failAt (ws : List (List UInt8)) : Nat → Nat → Option Nat
  | 0, _ => none
  | m + 1, i => if numE ws i = 0 then failAt ws m (i + 1) else some i
def sgOf (ws : List (List UInt8)) (v : Int) (i : Nat) : Sg :=
  if v = 5 then ⟨5, 0, 0, 0, 0, 0, 0⟩ else if v = 4 then ⟨4, numV ws (i + 1), numV ws (i + 2), numV ws (i + 3), numV ws (i + 4), numV ws (i + 5), numV ws (i + 6)⟩
  else if v = 3 then ⟨3, numV ws (i + 1), numV ws (i + 2), numV ws (i + 3), numV ws (i + 4), 0, 0⟩ else ⟨v, numV ws (i + 1), numV ws (i + 2), 0, 0, 0, 0⟩
def endP (acc : List Sg) : List Sg × Nat × Int := if (chk acc).1 = 0 then (acc, 0, 0) else ([], (chk acc).2, (chk acc).1)
def parseF (ws : List (List UInt8)) : Nat → Nat → List Sg → List Sg × Nat × Int
  | 0, _, acc => endP acc
  | f + 1, i, acc => match ws[i]? with
    | none => endP acc
    | some x => if verbI x = 0 then ([], i, 3) else match failAt ws (2 * (namedI (verbI x)).toNat) (i + 1) with
      | some j => ([], j, numE ws j)
      | none => parseF ws f (i + 1 + 2 * (namedI (verbI x)).toNat) (acc ++ [sgOf ws (verbI x) i])
def parseW (ws : List (List UInt8)) (i : Nat) (acc : List Sg) : List Sg × Nat × Int := parseF ws (ws.length - i) i acc
def parseP (s : List UInt8) : List Sg × Nat × Int := if 65536 < s.length then ([], 0, 5) else parseW (wordsF s) 0 []
theorem parseF_mono (ws : List (List UInt8)) : ∀ (f f' i : Nat) (acc : List Sg), ws.length - i ≤ f → ws.length - i ≤ f' → parseF ws f i acc = parseF ws f' i acc
  | 0, 0, i, acc, _, _ => rfl
  | 0, f' + 1, i, acc, h, _ => by rw [parseF, parseF, List.getElem?_eq_none (by omega)]
  | f + 1, 0, i, acc, _, h => by rw [parseF, parseF, List.getElem?_eq_none (by omega)]
  | f + 1, f' + 1, i, acc, h, h' => by
    rw [parseF, parseF]
    cases hx : ws[i]? with
    | none => rfl
    | some x =>
      simp only
      split
      · rfl
      · split
        · rfl
        · exact parseF_mono ws f f' _ _ (by omega) (by omega)
section
variable {ws : List (List UInt8)} {i : Nat} {acc : List Sg} {x : List UInt8} {v : Int}
theorem pw_end (h : ws.length ≤ i) : parseW ws i acc = endP acc := by
  unfold parseW; rw [show ws.length - i = 0 by omega, parseF]
theorem pw_at (h : ws[i]? = some x) : parseW ws i acc = if verbI x = 0 then ([], i, 3) else match failAt ws (2 * (namedI (verbI x)).toNat) (i + 1) with
      | some j => ([], j, numE ws j)
      | none => parseW ws (i + 1 + 2 * (namedI (verbI x)).toNat) (acc ++ [sgOf ws (verbI x) i]) := by
  have hlt := (List.getElem?_eq_some_iff.1 h).1
  have e : parseW ws i acc = parseF ws (ws.length - i - 1 + 1) i acc := by unfold parseW; rw [show ws.length - i - 1 + 1 = ws.length - i by omega]
  rw [e, parseF, h]
  simp only
  split
  · rfl
  · split
    · rfl
    · exact parseF_mono ws _ _ _ _ (by omega) (Nat.le_refl _)
theorem pw_verb (h : ws[i]? = some x) (hv : verbI x = 0) : parseW ws i acc = ([], i, 3) := by rw [pw_at h, if_pos hv]
theorem pw_fail {j : Nat} (h : ws[i]? = some x) (hv : verbI x = v) (h0 : v ≠ 0) (hf : failAt ws (2 * (namedI v).toNat) (i + 1) = some j) : parseW ws i acc = ([], j, numE ws j) := by
  rw [pw_at h, hv, if_neg h0, hf]
theorem pw_step (h : ws[i]? = some x) (hv : verbI x = v) (h0 : v ≠ 0) (hf : failAt ws (2 * (namedI v).toNat) (i + 1) = none) : parseW ws i acc = parseW ws (i + 1 + 2 * (namedI v).toNat) (acc ++ [sgOf ws v i]) := by
  rw [pw_at h, hv, if_neg h0, hf]
end
theorem verb_cases (x : List UInt8) : (x = [77] ∧ verbI x = 1) ∨ (x = [76] ∧ verbI x = 2) ∨ (x = [81] ∧ verbI x = 3) ∨ (x = [67] ∧ verbI x = 4) ∨ (x = [90] ∧ verbI x = 5) ∨ ((x ≠ [77] ∧ x ≠ [76] ∧ x ≠ [81] ∧ x ≠ [67] ∧ x ≠ [90]) ∧ verbI x = 0) := by
  unfold verbI
  by_cases h1 : x = [77]
  · subst h1; exact .inl ⟨rfl, rfl⟩
  by_cases h2 : x = [76]
  · subst h2; exact .inr (.inl ⟨rfl, rfl⟩)
  by_cases h3 : x = [81]
  · subst h3; exact .inr (.inr (.inl ⟨rfl, rfl⟩))
  by_cases h4 : x = [67]
  · subst h4; exact .inr (.inr (.inr (.inl ⟨rfl, rfl⟩)))
  by_cases h5 : x = [90]
  · subst h5; exact .inr (.inr (.inr (.inr (.inl ⟨rfl, rfl⟩))))
  · rw [if_neg h1, if_neg h2, if_neg h3, if_neg h4, if_neg h5]; exact .inr (.inr (.inr (.inr (.inr ⟨⟨h1, h2, h3, h4, h5⟩, rfl⟩))))
theorem parseE_vals (l : List UInt8) : parseE l = 0 ∨ parseE l = 3 ∨ parseE l = 5 ∨ parseE l = 6 := by
  unfold parseE
  split
  · exact .inr (.inl rfl)
  · split
    · exact .inr (.inl rfl)
    · split
      · exact .inr (.inr (.inl rfl))
      · exact .inl rfl
theorem piE_vals (l : List UInt8) : piE l = 0 ∨ piE l = 3 ∨ piE l = 5 ∨ piE l = 6 := by
  unfold piE
  split
  · split
    · exact .inl rfl
    · exact .inr (.inr (.inr rfl))
  · unfold parseIE
    split
    · split
      · exact .inr (.inl rfl)
      · exact .inl rfl
    · exact parseE_vals _
section
variable {w : World} {l : List UInt8} {A : Option Addr} {n c : Nat} {ws : List (List UInt8)}
set_option maxRecDepth 100000 in
set_option maxHeartbeats 2000000 in
theorem rcut14_m {B : Nat} (hB : B ≤ w.heap.size) (hBw : w.heap.size ≤ B) (hl : l.length ≤ 70000) : Calls Tryd.prog 27 #[strOf l] w (CallPost w (fun y : Option Addr × Nat => .slice y.1 (wordsF l).length y.2) fun y u => OwnR u B 9 1 y.1 (wordsF l).length y.2 (sv (wordsF l))) := by
  by_cases h0 : l = []
  · subst h0
    refine Good.enter Tryd.func27 rfl ?_
    refine Good.run (by kernel_rfl) (stop := 1) 1000 _ ?_
    refine Good.ask (opS .eql 9 (.tmp 6) (.const (.string ⟨#[]⟩)) (strOf []) (strOf [])) (.bool true) (by kernel_rfl) (fun w1 hw h => run_eqS (by simp)) ?_
    refine Good.run (by kernel_rfl) (stop := 1000) 1000 _ ?_
    refine Good.cond true (by kernel_rfl) ?_
    refine Good.run (by kernel_rfl) (stop := 1000) 1000 _ ?_
    refine Good.ret (v := .slice none 0 0) (by kernel_rfl) (fun w1 hw h => ⟨(none, 0), rfl, hw, fun _ _ _ => OwnR.nil_⟩)
  have hw0 : wordsF l = splitBy 32 l := if_neg h0
  rw [hw0]
  refine Good.enter Tryd.func27 rfl ?_
  refine Good.run (by kernel_rfl) (stop := 1) 1000 _ ?_
  refine Good.ask (opS .eql 9 (.tmp 6) (.const (.string ⟨#[]⟩)) (strOf l) (strOf [])) (.bool false) (by kernel_rfl) (fun w1 hw h => run_eqS (by simpa using h0)) ?_
  refine Good.run (by kernel_rfl) (stop := 1000) 1000 _ ?_
  refine Good.cond false (by kernel_rfl) ?_
  refine Good.run (by kernel_rfl) (stop := 1000) 1000 _ ?_
  refine Good.loop (ι := {q : (Nat × Nat × Nat × List (List UInt8)) × (Option Addr × Nat) // q.1.1 ≤ l.length + 1 ∧ q.1.2.2.2.length = q.1.2.2.1 ∧ q.1.2.2.1 ≤ q.1.1 ∧ (q.1.1 ≤ l.length → q.1.2.1 ≤ q.1.1 ∧ splitBy 32 l = q.1.2.2.2 ++ splitBy 32 (l.drop q.1.2.1) ∧ ∀ j, q.1.2.1 ≤ j → j < q.1.1 → l[j]? ≠ some 32) ∧ (l.length < q.1.1 → splitBy 32 l = q.1.2.2.2)}) 34 (fun q => ⟨[(0, .v (strOf l)), (3, .v (.slice q.1.2.1 q.1.1.2.2.1 q.1.2.2)), (4, .v (.int .i64 q.1.1.2.1)), (5, .v (.int .i64 q.1.1.1))], []⟩) (fun q u => OwnR u B 9 1 q.1.2.1 q.1.1.2.2.1 q.1.2.2 (sv q.1.1.2.2.2)) (fun q => l.length + 1 - q.1.1.1) (⟨((0, 0, 0, []), (none, 0)), Nat.zero_le _, rfl, Nat.le_refl _, fun _ => ⟨Nat.le_refl _, rfl, fun j h1 h2 => absurd h2 (Nat.not_lt_zero _)⟩, fun h => absurd h (Nat.not_lt_zero _)⟩) (by kernel_rfl) (fun _ => by kernel_rfl) ⟨by kernel_rfl, by kernel_rfl, by kernel_rfl⟩ (fun u h => OwnR.nil_) ?_
  rintro ⟨⟨⟨i, at_, m, p⟩, y, yc⟩, hk⟩ g
  have hk1 : i ≤ l.length + 1 := hk.1
  have hk3 : p.length = m := hk.2.1
  have hk4 : m ≤ i := hk.2.2.1
  by_cases hlt : i ≤ l.length
  case neg =>
    have hk5 : splitBy 32 l = p := hk.2.2.2.2 (show l.length < i from by omega)
    refine Good.run (by kernel_rfl) (stop := 1000) 1000 _ ?_
    refine Good.condr (decide ((i : Int) ≤ (l.length : Int))) false (by kernel_rfl) (by simp; omega) ?_
    refine Good.run (by kernel_rfl) (stop := 1000) 1000 _ ?_
    refine Good.leave (by kernel_rfl) ?_
    refine Good.run (by kernel_rfl) (stop := 1000) 1000 _ ?_
    refine Good.ret (v := .slice y m yc) (by kernel_rfl) (fun w1 hw h => ⟨(y, yc), by rw [hk5, hk3], hw, fun w'' k1 k2 => by rw [hk5, hk3]; exact h w'' k1 k2⟩)
  obtain ⟨hk2, hk5, hk6⟩ := hk.2.2.2.1 hlt
  have hk2 : at_ ≤ i := hk2
  have hk5 : splitBy 32 l = p ++ splitBy 32 (l.drop at_) := hk5
  have hk6 : ∀ j, at_ ≤ j → j < i → l[j]? ≠ some 32 := hk6
  have hno : (32 : UInt8) ∉ (l.take i).drop at_ := fun hm => by
    obtain ⟨j, hj, e⟩ := List.getElem_of_mem hm
    have hj2 : j < i - at_ := by simp only [List.length_drop, List.length_take] at hj; omega
    refine hk6 (at_ + j) (by omega) (by omega) ?_
    rw [← e, List.getElem_drop, List.getElem_take]
    exact List.getElem?_eq_getElem (by omega)
  refine Good.run (by kernel_rfl) (stop := 1000) 1000 _ ?_
  refine Good.condr (decide ((i : Int) ≤ (l.length : Int))) true (by kernel_rfl) (by simp; omega) ?_
  refine Good.run (by kernel_rfl) (stop := 4) 1000 _ ?_
  by_cases hend : i = l.length
  · subst hend
    have hsp : splitBy 32 l = p ++ [l.drop at_] := by
      rw [List.take_length] at hno
      rw [hk5, splitBy_one hno]
    have hdr : (l.take l.length).drop at_ = l.drop at_ := by rw [List.take_length]
    refine Good.slot 17 (.bool ((l.length : Int) == (l.length : Int))) (.bool true) (by kernel_rfl) (by simp) ?_
    refine Good.run (by kernel_rfl) (stop := 1000) 1000 _ ?_
    refine Good.cond true (by kernel_rfl) ?_
    refine Good.run (by kernel_rfl) (stop := 4) 1000 _ ?_
    refine Good.ask (slC 9 (strOf l) .i64 at_ l.length) (strOf (l.drop at_)) (by kernel_rfl) (fun w1 hw h => by rw [← hdr]; exact run_slC (by kernel_rfl) hk2 (Nat.le_refl _)) ?_
    refine Good.run (by kernel_rfl) (stop := 5) 1000 _ ?_
    refine Good.make (litS 43 1 #[(0, strOf (l.drop at_))]) (litV 1) (litG 9 #[strOf (l.drop at_)]) (by kernel_rfl) (fun w1 hw h => make_lit (by kernel_rfl)) (fun gb => ?_)
    refine Good.run (by kernel_rfl) (stop := 6) 1000 _ ?_
    refine Good.mutOp (L := bl y) (val := fun (z : Option Addr × Nat) => .slice z.1 (m + 1) z.2) (Φ' := fun (z : Option Addr × Nat) vv => OwnR vv B 9 1 z.1 (m + 1) z.2 (sv (p ++ [l.drop at_]))) (G := fun (z : Option Addr × Nat) vv => OwnR vv B 9 1 z.1 (m + 1) z.2 (sv (p ++ [l.drop at_]))) (appS 43 43 (.slice y m yc) (litV 1 gb)) (fun w1 hw h => app_str (show OwnR w1 B 9 1 y m yc (sv (p)) from h.1) (Nat.le_trans hB hw.size) h.2 (show m < 100000000 from by omega)) (fun w1 h => fun b hb => ⟨Nat.le_trans hBw ((show OwnR w1 B 9 1 y m yc (sv (p)) from h.1).lt b hb).1, ((show OwnR w1 B 9 1 y m yc (sv (p)) from h.1).blk b hb).2⟩) (fun z wa w1 e1 e2 h hG => hG) (by kernel_rfl) (by kernel_rfl) (fun z => ?_)
    refine Good.run (by kernel_rfl) (stop := 1000) 1000 _ ?_
    refine Good.slot 5 (.int .i64 (IntKind.i64.wrap ((l.length : Int) + 1))) (.int .i64 ((l.length + 1 : Nat) : Int)) (by kernel_rfl) (by rw [wrap_succ (n := l.length + 1) (by omega) (by omega)]) ?_
    refine Good.slot 4 (.int .i64 (IntKind.i64.wrap ((l.length : Int) + 1))) (.int .i64 ((l.length + 1 : Nat) : Int)) (by kernel_rfl) (by rw [wrap_succ (n := l.length + 1) (by omega) (by omega)]) ?_
    refine Good.next (⟨((l.length + 1, l.length + 1, m + 1, p ++ [l.drop at_]), z), Nat.le_refl _, by simp [hk3], by show m + 1 ≤ l.length + 1; omega, fun h => absurd (show l.length + 1 ≤ l.length from h) (by omega), fun _ => hsp⟩) (by kernel_rfl) (by show l.length + 1 - (l.length + 1) < l.length + 1 - l.length; omega) ⟨by kernel_rfl, by kernel_rfl, by kernel_rfl⟩ (fun _ h => h)
  · obtain ⟨b, hb⟩ : ∃ b, l[i]? = some b := ⟨_, List.getElem?_eq_getElem (by omega)⟩
    refine Good.slot 17 (.bool ((i : Int) == (l.length : Int))) (.bool false) (by kernel_rfl) (by simp; omega) ?_
    refine Good.run (by kernel_rfl) (stop := 7) 1000 _ ?_
    refine Good.ask (ixS 9 (strOf l) i) (.int .u8 b.toNat) (by kernel_rfl) (fun w1 hw h => run_ixP (by kernel_rfl) hb) ?_
    refine Good.run (by kernel_rfl) (stop := 1000) 1000 _ ?_
    by_cases hbc : b = 32
    · subst hbc
      have hsp : splitBy 32 (l.drop at_) = (l.take i).drop at_ :: splitBy 32 (l.drop (i + 1)) := by
        have e : l.drop at_ = (l.take i).drop at_ ++ 32 :: l.drop (i + 1) := by
          have h1 : l = l.take i ++ (32 :: l.drop (i + 1)) := by rw [← drop_at hb]; exact (List.take_append_drop i l).symm
          conv => lhs; rw [h1]
          rw [List.drop_append_of_le_length (by simp; omega)]
        rw [e, splitBy_app _ hno]
      refine Good.cond true (by kernel_rfl) ?_
      refine Good.run (by kernel_rfl) (stop := 4) 1000 _ ?_
      refine Good.ask (slC 9 (strOf l) .i64 at_ i) (strOf ((l.take i).drop at_)) (by kernel_rfl) (fun w1 hw h => run_slC (by kernel_rfl) hk2 hlt) ?_
      refine Good.run (by kernel_rfl) (stop := 5) 1000 _ ?_
      refine Good.make (litS 43 1 #[(0, strOf ((l.take i).drop at_))]) (litV 1) (litG 9 #[strOf ((l.take i).drop at_)]) (by kernel_rfl) (fun w1 hw h => make_lit (by kernel_rfl)) (fun gb => ?_)
      refine Good.run (by kernel_rfl) (stop := 6) 1000 _ ?_
      refine Good.mutOp (L := bl y) (val := fun (z : Option Addr × Nat) => .slice z.1 (m + 1) z.2) (Φ' := fun (z : Option Addr × Nat) vv => OwnR vv B 9 1 z.1 (m + 1) z.2 (sv (p ++ [(l.take i).drop at_]))) (G := fun (z : Option Addr × Nat) vv => OwnR vv B 9 1 z.1 (m + 1) z.2 (sv (p ++ [(l.take i).drop at_]))) (appS 43 43 (.slice y m yc) (litV 1 gb)) (fun w1 hw h => app_str (show OwnR w1 B 9 1 y m yc (sv (p)) from h.1) (Nat.le_trans hB hw.size) h.2 (show m < 100000000 from by omega)) (fun w1 h => fun b hb => ⟨Nat.le_trans hBw ((show OwnR w1 B 9 1 y m yc (sv (p)) from h.1).lt b hb).1, ((show OwnR w1 B 9 1 y m yc (sv (p)) from h.1).blk b hb).2⟩) (fun z wa w1 e1 e2 h hG => hG) (by kernel_rfl) (by kernel_rfl) (fun z => ?_)
      refine Good.run (by kernel_rfl) (stop := 1000) 1000 _ ?_
      refine Good.slot 5 (.int .i64 (IntKind.i64.wrap ((i : Int) + 1))) (.int .i64 ((i + 1 : Nat) : Int)) (by kernel_rfl) (by rw [wrap_succ (n := l.length) (by omega) (by omega)]) ?_
      refine Good.slot 4 (.int .i64 (IntKind.i64.wrap ((i : Int) + 1))) (.int .i64 ((i + 1 : Nat) : Int)) (by kernel_rfl) (by rw [wrap_succ (n := l.length) (by omega) (by omega)]) ?_
      refine Good.next (⟨((i + 1, i + 1, m + 1, p ++ [(l.take i).drop at_]), z), by show i + 1 ≤ l.length + 1; omega, by simp [hk3], by show m + 1 ≤ i + 1; omega, fun _ => ⟨Nat.le_refl _, by show _ = (p ++ [(l.take i).drop at_]) ++ splitBy 32 (l.drop (i + 1)); rw [hk5, hsp]; simp, fun j h1 h2 => by have h1' : i + 1 ≤ j := h1; have h2' : j < i + 1 := h2; omega⟩, fun h => absurd (show l.length < i + 1 from h) (by omega)⟩) (by kernel_rfl) (by show l.length + 1 - (i + 1) < l.length + 1 - i; omega) ⟨by kernel_rfl, by kernel_rfl, by kernel_rfl⟩ (fun _ h => h)
    ·
      refine Good.condr ((((b.toNat : Nat) : Int) == 32)) false (by kernel_rfl) (by rw [beq_eq_false_iff_ne]; intro e; exact hbc (UInt8.toNat_inj.1 (by show b.toNat = 32; omega))) ?_
      refine Good.run (by kernel_rfl) (stop := 1000) 1000 _ ?_
      refine Good.slot 5 (.int .i64 (IntKind.i64.wrap ((i : Int) + 1))) (.int .i64 ((i + 1 : Nat) : Int)) (by kernel_rfl) (by rw [wrap_succ (n := l.length) (by omega) (by omega)]) ?_
      refine Good.next (⟨((i + 1, at_, m, p), (y, yc)), by show i + 1 ≤ l.length + 1; omega, hk3, by show m ≤ i + 1; omega, fun _ => ⟨by show at_ ≤ i + 1; omega, hk5, fun j h1 h2 => by have h1' : at_ ≤ j := h1; have h2' : j < i + 1 := h2; by_cases e : j = i; rw [e, hb]; simpa using hbc; exact hk6 j h1' (by omega)⟩, fun h => absurd (show l.length < i + 1 from h) (by omega)⟩) (by kernel_rfl) (by show l.length + 1 - (i + 1) < l.length + 1 - i; omega) ⟨by kernel_rfl, by kernel_rfl, by kernel_rfl⟩ (fun _ h => h)
set_option maxRecDepth 100000 in
set_option maxHeartbeats 2000000 in
theorem rverb_m {v : Int} (hv : verbI l = v) : Calls Tryd.prog 28 #[strOf l] w (CallPost w (fun _ : Unit => .int .i64 v) fun _ _ => True) := by
  refine Good.enter Tryd.func28 rfl ?_
  refine Good.run (by kernel_rfl) (stop := 1000) 1000 _ ?_
  refine Good.un (by kernel_rfl) ?_
  refine Good.run (by kernel_rfl) (stop := 1000) 1000 _ ?_
  refine Good.cond true (by kernel_rfl) ?_
  refine Good.run (by kernel_rfl) (stop := 5) 1000 _ ?_
  refine Good.ask (slC 9 (strOf [77, 76, 81, 67, 90]) .i64 (0 : Nat) (0 + 1 : Nat)) (strOf [77]) (by kernel_rfl) (fun w1 hw h => run_slC1 (by kernel_rfl) rfl) ?_
  refine Good.run (by kernel_rfl) (stop := 6) 1000 _ ?_
  by_cases h0 : l = [77]
  · subst h0
    obtain rfl : v = 1 := hv.symm
    refine Good.ask (opS .eql 9 (.tmp 9) (.tmp 14) (strOf [77]) (strOf [77])) (.bool true) (by kernel_rfl) (fun w1 hw h => run_eqS (by simp)) ?_
    refine Good.run (by kernel_rfl) (stop := 1000) 1000 _ ?_
    refine Good.cond true (by kernel_rfl) ?_
    refine Good.run (by kernel_rfl) (stop := 1000) 1000 _ ?_
    refine Good.ret (v := .int .i64 1) (by kernel_rfl) (fun w1 hw h => ⟨(), rfl, hw, fun _ _ _ => trivial⟩)
  refine Good.ask (opS .eql 9 (.tmp 9) (.tmp 14) (strOf l) (strOf [77])) (.bool false) (by kernel_rfl) (fun w1 hw h => run_eqS (by simpa using h0)) ?_
  refine Good.run (by kernel_rfl) (stop := 1000) 1000 _ ?_
  refine Good.cond false (by kernel_rfl) ?_
  refine Good.run (by kernel_rfl) (stop := 1000) 1000 _ ?_
  refine Good.cond true (by kernel_rfl) ?_
  refine Good.run (by kernel_rfl) (stop := 5) 1000 _ ?_
  refine Good.ask (slC 9 (strOf [77, 76, 81, 67, 90]) .i64 (1 : Nat) (1 + 1 : Nat)) (strOf [76]) (by kernel_rfl) (fun w1 hw h => run_slC1 (by kernel_rfl) rfl) ?_
  refine Good.run (by kernel_rfl) (stop := 6) 1000 _ ?_
  by_cases h1 : l = [76]
  · subst h1
    obtain rfl : v = 2 := hv.symm
    refine Good.ask (opS .eql 9 (.tmp 9) (.tmp 14) (strOf [76]) (strOf [76])) (.bool true) (by kernel_rfl) (fun w1 hw h => run_eqS (by simp)) ?_
    refine Good.run (by kernel_rfl) (stop := 1000) 1000 _ ?_
    refine Good.cond true (by kernel_rfl) ?_
    refine Good.run (by kernel_rfl) (stop := 1000) 1000 _ ?_
    refine Good.ret (v := .int .i64 2) (by kernel_rfl) (fun w1 hw h => ⟨(), rfl, hw, fun _ _ _ => trivial⟩)
  refine Good.ask (opS .eql 9 (.tmp 9) (.tmp 14) (strOf l) (strOf [76])) (.bool false) (by kernel_rfl) (fun w1 hw h => run_eqS (by simpa using h1)) ?_
  refine Good.run (by kernel_rfl) (stop := 1000) 1000 _ ?_
  refine Good.cond false (by kernel_rfl) ?_
  refine Good.run (by kernel_rfl) (stop := 1000) 1000 _ ?_
  refine Good.cond true (by kernel_rfl) ?_
  refine Good.run (by kernel_rfl) (stop := 5) 1000 _ ?_
  refine Good.ask (slC 9 (strOf [77, 76, 81, 67, 90]) .i64 (2 : Nat) (2 + 1 : Nat)) (strOf [81]) (by kernel_rfl) (fun w1 hw h => run_slC1 (by kernel_rfl) rfl) ?_
  refine Good.run (by kernel_rfl) (stop := 6) 1000 _ ?_
  by_cases h2 : l = [81]
  · subst h2
    obtain rfl : v = 3 := hv.symm
    refine Good.ask (opS .eql 9 (.tmp 9) (.tmp 14) (strOf [81]) (strOf [81])) (.bool true) (by kernel_rfl) (fun w1 hw h => run_eqS (by simp)) ?_
    refine Good.run (by kernel_rfl) (stop := 1000) 1000 _ ?_
    refine Good.cond true (by kernel_rfl) ?_
    refine Good.run (by kernel_rfl) (stop := 1000) 1000 _ ?_
    refine Good.ret (v := .int .i64 3) (by kernel_rfl) (fun w1 hw h => ⟨(), rfl, hw, fun _ _ _ => trivial⟩)
  refine Good.ask (opS .eql 9 (.tmp 9) (.tmp 14) (strOf l) (strOf [81])) (.bool false) (by kernel_rfl) (fun w1 hw h => run_eqS (by simpa using h2)) ?_
  refine Good.run (by kernel_rfl) (stop := 1000) 1000 _ ?_
  refine Good.cond false (by kernel_rfl) ?_
  refine Good.run (by kernel_rfl) (stop := 1000) 1000 _ ?_
  refine Good.cond true (by kernel_rfl) ?_
  refine Good.run (by kernel_rfl) (stop := 5) 1000 _ ?_
  refine Good.ask (slC 9 (strOf [77, 76, 81, 67, 90]) .i64 (3 : Nat) (3 + 1 : Nat)) (strOf [67]) (by kernel_rfl) (fun w1 hw h => run_slC1 (by kernel_rfl) rfl) ?_
  refine Good.run (by kernel_rfl) (stop := 6) 1000 _ ?_
  by_cases h3 : l = [67]
  · subst h3
    obtain rfl : v = 4 := hv.symm
    refine Good.ask (opS .eql 9 (.tmp 9) (.tmp 14) (strOf [67]) (strOf [67])) (.bool true) (by kernel_rfl) (fun w1 hw h => run_eqS (by simp)) ?_
    refine Good.run (by kernel_rfl) (stop := 1000) 1000 _ ?_
    refine Good.cond true (by kernel_rfl) ?_
    refine Good.run (by kernel_rfl) (stop := 1000) 1000 _ ?_
    refine Good.ret (v := .int .i64 4) (by kernel_rfl) (fun w1 hw h => ⟨(), rfl, hw, fun _ _ _ => trivial⟩)
  refine Good.ask (opS .eql 9 (.tmp 9) (.tmp 14) (strOf l) (strOf [67])) (.bool false) (by kernel_rfl) (fun w1 hw h => run_eqS (by simpa using h3)) ?_
  refine Good.run (by kernel_rfl) (stop := 1000) 1000 _ ?_
  refine Good.cond false (by kernel_rfl) ?_
  refine Good.run (by kernel_rfl) (stop := 1000) 1000 _ ?_
  refine Good.cond true (by kernel_rfl) ?_
  refine Good.run (by kernel_rfl) (stop := 5) 1000 _ ?_
  refine Good.ask (slC 9 (strOf [77, 76, 81, 67, 90]) .i64 (4 : Nat) (4 + 1 : Nat)) (strOf [90]) (by kernel_rfl) (fun w1 hw h => run_slC1 (by kernel_rfl) rfl) ?_
  refine Good.run (by kernel_rfl) (stop := 6) 1000 _ ?_
  by_cases h4 : l = [90]
  · subst h4
    obtain rfl : v = 5 := hv.symm
    refine Good.ask (opS .eql 9 (.tmp 9) (.tmp 14) (strOf [90]) (strOf [90])) (.bool true) (by kernel_rfl) (fun w1 hw h => run_eqS (by simp)) ?_
    refine Good.run (by kernel_rfl) (stop := 1000) 1000 _ ?_
    refine Good.cond true (by kernel_rfl) ?_
    refine Good.run (by kernel_rfl) (stop := 1000) 1000 _ ?_
    refine Good.ret (v := .int .i64 5) (by kernel_rfl) (fun w1 hw h => ⟨(), rfl, hw, fun _ _ _ => trivial⟩)
  refine Good.ask (opS .eql 9 (.tmp 9) (.tmp 14) (strOf l) (strOf [90])) (.bool false) (by kernel_rfl) (fun w1 hw h => run_eqS (by simpa using h4)) ?_
  refine Good.run (by kernel_rfl) (stop := 1000) 1000 _ ?_
  refine Good.cond false (by kernel_rfl) ?_
  refine Good.run (by kernel_rfl) (stop := 1000) 1000 _ ?_
  obtain rfl : v = 0 := by rw [← hv]; unfold verbI; rw [if_neg h0, if_neg h1, if_neg h2, if_neg h3, if_neg h4]
  refine Good.cond false (by kernel_rfl) ?_
  refine Good.run (by kernel_rfl) (stop := 1000) 1000 _ ?_
  refine Good.ret (v := .int .i64 0) (by kernel_rfl) (fun w1 hw h => ⟨(), rfl, hw, fun _ _ _ => trivial⟩)
theorem rparseInt_v {e v : Int} (he : piE l = e) (hv : piV l = v) (hL : l.length ≤ 9223372036854775807) : Calls Tryd.prog 44 #[strOf l] w (CallPost w (fun _ : Unit => .tuple #[.int .i64 v, .int .i64 e]) fun _ _ => True) := by subst he hv; exact rparseInt_m hL
set_option maxRecDepth 100000 in
set_option maxHeartbeats 2000000 in
theorem rnumber_m {e v x : Int} {i : Nat} (hs : StrAt w A n ws) (hx : x = (i : Int)) (hi : i ≤ n) (hn : n ≤ 1000000) (hlen : ∀ y ∈ ws, y.length ≤ 1000000) (he : numE ws i = e) (hv : numV ws i = v) : Calls Tryd.prog 29 #[.slice A n c, .int .i64 x] w (CallPost w (fun _ : Unit => .tuple #[.int .i64 v, .int .i64 e]) fun _ _ => True) := by
  subst hx
  have hln := hs.1
  refine Good.enter Tryd.func29 rfl ?_
  refine Good.run (by kernel_rfl) (stop := 1000) 1000 _ ?_
  by_cases hlt : i < n
  case neg =>
    have h0 : ws[i]? = none := List.getElem?_eq_none (by omega)
    obtain rfl : e = 3 := by rw [← he, numE, h0]
    obtain rfl : v = 0 := by rw [← hv, numV, h0]
    refine Good.condr (decide ((i : Int) ≥ (n : Int))) true (by kernel_rfl) (by simp; omega) ?_
    refine Good.run (by kernel_rfl) (stop := 1000) 1000 _ ?_
    refine Good.ret (v := .tuple #[.int .i64 0, .int .i64 3]) (by kernel_rfl) (fun w1 hw h => ⟨(), rfl, hw, fun _ _ _ => trivial⟩)
  obtain ⟨x, hx⟩ : ∃ x, ws[i]? = some x := ⟨_, List.getElem?_eq_getElem (by omega)⟩
  obtain ⟨ad, hA, hc⟩ := hs.2 i x hx
  have hxl := hlen x (List.mem_of_getElem? hx)
  have hv2 : piV x = v := by rw [← hv, numV, hx]
  have he2 : wnE x = e := by rw [← he, numE, hx]
  refine Good.condr (decide ((i : Int) ≥ (n : Int))) false (by kernel_rfl) (by simp; omega) ?_
  refine Good.run (by kernel_rfl) (stop := 1000) 1000 _ ?_
  refine Good.ask (idxS 43 (.slice A n c) i) (.pointer (some (ad.add i))) (by kernel_rfl) (fun w1 hw h => by rw [hA]; exact run_idxS (elem := 9) (by kernel_rfl) (by kernel_rfl) hlt) ?_
  refine Good.run (by kernel_rfl) (stop := 1000) 1000 _ ?_
  refine Good.ask (ldS 9 (ad.add i)) (strOf x) (by kernel_rfl) (fun w1 hw h => run_ldS (by kernel_rfl) (keepc hw hc)) ?_
  refine Good.run (by kernel_rfl) (stop := 1000) 1000 _ ?_
  rcases piE_vals x with hp | hp | hp | hp
  · obtain rfl : e = 0 := by rw [← he2, wnE, if_pos hp]
    refine Good.callv (fun w1 hw h => rparseInt_v hp hv2 (by omega)) (by kernel_rfl) (fun u => ?_)
    refine Good.run (by kernel_rfl) (stop := 1000) 1000 _ ?_
    refine Good.cond false (by kernel_rfl) ?_
    refine Good.run (by kernel_rfl) (stop := 1000) 1000 _ ?_
    refine Good.ret (v := .tuple #[.int .i64 v, .int .i64 0]) (by kernel_rfl) (fun w1 hw h => ⟨(), rfl, hw, fun _ _ _ => trivial⟩)
  · obtain rfl : e = 3 := by rw [← he2, wnE, hp]; rfl
    refine Good.callv (fun w1 hw h => rparseInt_v hp hv2 (by omega)) (by kernel_rfl) (fun u => ?_)
    refine Good.run (by kernel_rfl) (stop := 1000) 1000 _ ?_
    refine Good.cond false (by kernel_rfl) ?_
    refine Good.run (by kernel_rfl) (stop := 1000) 1000 _ ?_
    refine Good.ret (v := .tuple #[.int .i64 v, .int .i64 3]) (by kernel_rfl) (fun w1 hw h => ⟨(), rfl, hw, fun _ _ _ => trivial⟩)
  · obtain rfl : e = 3 := by rw [← he2, wnE, hp]; rfl
    refine Good.callv (fun w1 hw h => rparseInt_v hp hv2 (by omega)) (by kernel_rfl) (fun u => ?_)
    refine Good.run (by kernel_rfl) (stop := 1000) 1000 _ ?_
    refine Good.cond true (by kernel_rfl) ?_
    refine Good.run (by kernel_rfl) (stop := 1000) 1000 _ ?_
    refine Good.ret (v := .tuple #[.int .i64 v, .int .i64 3]) (by kernel_rfl) (fun w1 hw h => ⟨(), rfl, hw, fun _ _ _ => trivial⟩)
  · obtain rfl : e = 6 := by rw [← he2, wnE, hp]; rfl
    refine Good.callv (fun w1 hw h => rparseInt_v hp hv2 (by omega)) (by kernel_rfl) (fun u => ?_)
    refine Good.run (by kernel_rfl) (stop := 1000) 1000 _ ?_
    refine Good.cond false (by kernel_rfl) ?_
    refine Good.run (by kernel_rfl) (stop := 1000) 1000 _ ?_
    refine Good.ret (v := .tuple #[.int .i64 v, .int .i64 6]) (by kernel_rfl) (fun w1 hw h => ⟨(), rfl, hw, fun _ _ _ => trivial⟩)
end

def gv (l : List Sg) : List Value := l.flatMap Sg.cl
theorem gv_get : ∀ {l : List Sg} {k j : Nat} {s : Sg} {v : Value}, l[k]? = some s → s.cl[j]? = some v → (gv l)[k * 7 + j]? = some v
  | [], k, j, s, v, h, _ => by simp at h
  | a :: l, 0, j, s, v, h, hv => by
    obtain rfl : a = s := by simpa using h
    have hj : j < 7 := (List.getElem?_eq_some_iff.1 hv).1
    rw [Nat.zero_mul, Nat.zero_add]
    show (a.cl ++ gv l)[j]? = _
    rw [List.getElem?_append_left (show j < a.cl.length from hj)]; exact hv
  | a :: l, k + 1, j, s, v, h, hv => by
    have ih := gv_get (l := l) (k := k) (by simpa using h) hv
    show (a.cl ++ gv l)[(k + 1) * 7 + j]? = _
    rw [List.getElem?_append_right (show a.cl.length ≤ (k + 1) * 7 + j from by show 7 ≤ _; omega), show (k + 1) * 7 + j - a.cl.length = k * 7 + j from by show (k + 1) * 7 + j - 7 = _; omega]; exact ih
section
variable {w : World} {l : List UInt8} {A : Option Addr} {n c : Nat} {ws : List (List UInt8)}
theorem own_segs {B m yc : Nat} {y : Option Addr} {acc : List Sg} (h : OwnR w B 41 7 y m yc (gv acc)) (hl : acc.length = m) : SgAt w y m acc := by
  refine ⟨hl, fun k s hk => ?_⟩
  have hlt := (List.getElem?_eq_some_iff.1 hk).1
  obtain ⟨g, hg, hc⟩ := h.cells (by omega)
  refine ⟨_, hg, fun j v hv => ?_⟩
  rw [Addr.add_mid, Addr.add_mid, Nat.zero_add]
  exact hc _ _ (gv_get hk hv)
theorem app_seg {B m yc gb : Nat} {y : Option Addr} {acc : List Sg} {s : Sg} (ho : OwnR w B 41 7 y m yc (gv acc)) (hB : B ≤ w.heap.size) (hg : litG 41 s.cl.toArray gb w) (hm : m < 1000000) :
    MutRun Tryd.prog w (bl y) (fun z : Option Addr × Nat => .slice z.1 (m + 1) z.2) (fun z v => OwnR v B 41 7 z.1 (m + 1) z.2 (gv (acc ++ [s]))) (appS 22 22 (.slice y m yc) (litV 1 gb)) := by
  have ha := appendR_m (P := Tryd.prog) (s := 7) (z := Sg.val ⟨0, 0, 0, 0, 0, 0, 0⟩) (bytes := 56) (m := 1) (cc := 1) (t := 22) (elem := 41) (by kernel_rfl) (by kernel_rfl) rfl (by decide) ho hB (litG_reads (n := 1) hg rfl) (by intro v hv; simp at hv; rcases hv with rfl | rfl | rfl | rfl | rfl | rfl | rfl <;> rfl) (by omega) (by decide)
  have e : gv (acc ++ [s]) = gv acc ++ s.cl := by simp [gv]
  rw [e]; exact ha
theorem seg_ne {u : World} {B B2 m cc m2 c2 : Nat} {Y Y2 : Option Addr} {xs xs2 : List Value} (h : OwnR u B 9 1 Y m cc xs) (h2 : OwnR u B2 41 7 Y2 m2 c2 xs2) : ∀ b ∈ bl Y, b ∉ bl Y2 := fun b hb hb2 => by
  obtain ⟨c1, o1, h3⟩ := h.ty b hb
  obtain ⟨c2, o2, h4⟩ := h2.ty b hb2
  rw [h3] at h4
  simp only [Option.some.injEq, Obj.cells.injEq] at h4
  exact absurd h4.2.1 (by decide)
theorem rcut14_f {B : Nat} (hB : B ≤ w.heap.size) (hl : l.length ≤ 70000) : Calls Tryd.prog 27 #[strOf l] w (CallPost w (fun y : Option Addr × Nat => .slice y.1 (wordsF l).length y.2) fun y u => OwnR u B 9 1 y.1 (wordsF l).length y.2 (sv (wordsF l))) :=
  (rcut14_m (B := w.heap.size) (Nat.le_refl _) (Nat.le_refl _) hl).mono fun e w' k => k.cast fun y u h => h.rebase fun b hb => Nat.le_trans hB (h.lt b hb).1
theorem lit_cell {e : TypeId} {g j : Nat} {cells : Array Value} {v : Value} (h : litG e cells g w) (hc : cells[j]? = some v) : w.cell? ⟨g, j, none⟩ = some v := by
  unfold litG at h
  simp only [World.cell?, h, Option.isSome_none, Bool.false_eq_true, if_false]
  exact hc
def manyA : Array Value := #[.int .i64 1, .int .i64 1, .int .i64 2, .int .i64 3, .int .i64 0]
theorem words_mem (l : List UInt8) : ∀ x ∈ wordsF l, x.length ≤ l.length := by
  unfold wordsF
  split
  · intro x hx; cases hx
  · exact split_mem 32 l
set_option maxRecDepth 100000 in
set_option maxHeartbeats 4000000 in
theorem rparse_big (h : 65536 < l.length) (hl : l.length ≤ 1000000) : Calls Tryd.prog 13 #[strOf l] w (CallPost w (fun _ : Unit => .tuple #[.slice none 0 0, .int .i64 0, .int .i64 5]) fun _ _ => True) := by
  refine Good.enter Tryd.func13 rfl ?_
  refine Good.run (by kernel_rfl) (stop := 1000) 1000 _ ?_
  refine Good.condr (decide ((l.length : Int) > 65536)) true (by kernel_rfl) (by simp; omega) ?_
  refine Good.run (by kernel_rfl) (stop := 1000) 1000 _ ?_
  refine Good.ret (v := .tuple #[.slice none 0 0, .int .i64 0, .int .i64 5]) (by kernel_rfl) (fun w1 hw h => ⟨(), rfl, hw, fun _ _ _ => trivial⟩)
set_option maxRecDepth 100000 in
set_option maxHeartbeats 8000000 in
theorem rparse_w {out : List Sg} {at_ : Nat} {e : Int} (hl : l.length ≤ 65536) (hR : parseW (wordsF l) 0 [] = (out, at_, e)) : Calls Tryd.prog 13 #[strOf l] w (CallPost w (fun y : Option Addr × Nat => .tuple #[.slice y.1 out.length y.2, .int .i64 at_, .int .i64 e]) fun y u => SgAt u y.1 out.length out) := by
  have hwl := words_len l
  have hmem : ∀ x ∈ wordsF l, x.length ≤ 1000000 := fun x hx => by have := words_mem l x hx; omega
  refine Good.enter Tryd.func13 rfl ?_
  refine Good.run (by kernel_rfl) (stop := 1000) 1000 _ ?_
  refine Good.condr (decide ((l.length : Int) > 65536)) false (by kernel_rfl) (by simp; omega) ?_
  refine Good.run (by kernel_rfl) (stop := 1000) 1000 _ ?_
  refine Good.callv (fun w1 hw h => rcut14_f (l := l) (B := w.heap.size) hw.size (by omega)) (by kernel_rfl) (fun wy => ?_)
  obtain ⟨A, c⟩ := wy
  obtain ⟨ws, hws⟩ : ∃ ws, ws = wordsF l := ⟨_, rfl⟩
  rw [← hws] at hR hwl hmem ⊢
  obtain ⟨n, hn⟩ : ∃ n, n = ws.length := ⟨_, rfl⟩
  rw [← hn] at hwl ⊢
  refine Good.run (by kernel_rfl) (stop := 1000) 1000 _ ?_
  refine Good.loop (ι := {q : (Nat × Nat × List Sg) × (Option Addr × Nat) // q.1.1 ≤ n ∧ q.1.2.1 ≤ q.1.1 ∧ q.1.2.2.length = q.1.2.1 ∧ parseW ws q.1.1 q.1.2.2 = (out, at_, e)}) 108 (fun q => ⟨[(5, .v (.slice A n c)), (6, .v (.slice q.1.2.1 q.1.1.2.1 q.1.2.2)), (7, .v (.int .i64 q.1.1.1))], []⟩) (fun q u => OwnR u w.heap.size 9 1 A n c (sv ws) ∧ OwnR u w.heap.size 41 7 q.1.2.1 q.1.1.2.1 q.1.2.2 (gv q.1.1.2.2)) (fun q => n - q.1.1.1) (⟨((0, 0, []), (none, 0)), Nat.zero_le _, Nat.le_refl _, rfl, hR⟩) (by kernel_rfl) (fun _ => by kernel_rfl) ⟨by kernel_rfl, by kernel_rfl, by kernel_rfl⟩ (fun u h => ⟨h.2, OwnR.nil_⟩) ?_
  clear hR
  rintro ⟨⟨⟨i, m, acc⟩, y, yc⟩, hk⟩ g
  have hi : i ≤ n := hk.1
  have hmi : m ≤ i := hk.2.1
  have hacc : acc.length = m := hk.2.2.1
  have hR : parseW ws i acc = (out, at_, e) := hk.2.2.2
  by_cases hlt : i < n
  case neg =>
    obtain rfl : i = n := by omega
    rw [pw_end (by omega), endP] at hR
    obtain ⟨e2, k2, hch⟩ : ∃ e k, chk acc = (e, k) := ⟨_, _, rfl⟩
    rw [hch] at hR
    refine Good.run (by kernel_rfl) (stop := 1000) 1000 _ ?_
    refine Good.condr (decide ((i : Int) < (i : Int))) false (by kernel_rfl) (by simp) ?_
    refine Good.run (by kernel_rfl) (stop := 1000) 1000 _ ?_
    refine Good.leave (by kernel_rfl) ?_
    refine Good.run (by kernel_rfl) (stop := 1000) 1000 _ ?_
    refine Good.callv (fun w1 hw h => rcheck_m (A := y) (n := m) (c := yc) (own_segs h.2 hacc) (by omega) hch) (by kernel_rfl) (fun u => ?_)
    refine Good.run (by kernel_rfl) (stop := 1000) 1000 _ ?_
    by_cases he2 : e2 = 0
    · subst he2
      rw [if_pos rfl] at hR
      cases hR
      refine Good.condr (((0 : Int) != 0)) false (by kernel_rfl) (rfl) ?_
      refine Good.run (by kernel_rfl) (stop := 1000) 1000 _ ?_
      refine Good.ret (v := .tuple #[.slice y m yc, .int .i64 0, .int .i64 0]) (by kernel_rfl) (fun w1 hw h => ⟨(y, yc), by rw [← hacc]; rfl, hw, fun w'' k1 k2 => by rw [hacc]; exact own_segs (h w'' k1 k2).1.2 hacc⟩)
    · rw [if_neg he2] at hR
      cases hR
      refine Good.condr ((e2 != 0)) true (by kernel_rfl) (by simpa using he2) ?_
      refine Good.run (by kernel_rfl) (stop := 1000) 1000 _ ?_
      refine Good.ret (v := .tuple #[.slice none 0 0, .int .i64 k2, .int .i64 e2]) (by kernel_rfl) (fun w1 hw h => ⟨(none, 0), rfl, hw, fun _ _ _ => ⟨rfl, fun k s hk => by simp at hk⟩⟩)
  obtain ⟨x, hx⟩ : ∃ x, ws[i]? = some x := ⟨_, List.getElem?_eq_getElem (by omega)⟩
  have hxl := hmem x (List.mem_of_getElem? hx)
  refine Good.run (by kernel_rfl) (stop := 1000) 1000 _ ?_
  refine Good.condr (decide ((i : Int) < (n : Int))) true (by kernel_rfl) (by simp; omega) ?_
  refine Good.run (by kernel_rfl) (stop := 1000) 1000 _ ?_
  refine Good.pure_ (p := ∃ ad, A = some ad) (fun u hu h => (by obtain ⟨g, hg, _⟩ := (own_cap h.1).2 (by omega); exact ⟨_, hg⟩)) (by kernel_rfl) (fun hwy => ?_)
  obtain ⟨ad, hA⟩ := hwy
  refine Good.ask (idxS 43 (.slice A n c) i) (.pointer (some (ad.add i))) (by kernel_rfl) (fun w1 hw h => by rw [hA]; exact run_idxS (elem := 9) (by kernel_rfl) (by kernel_rfl) hlt) ?_
  refine Good.run (by kernel_rfl) (stop := 1000) 1000 _ ?_
  refine Good.ask (ldS 9 (ad.add i)) (strOf x) (by kernel_rfl) (fun w1 hw h => run_ldS (by kernel_rfl) (by obtain ⟨ad2, h3, h4⟩ := h.1.strs.2 i x hx; rw [hA] at h3; cases h3; exact h4)) ?_
  refine Good.run (by kernel_rfl) (stop := 1000) 1000 _ ?_
  rcases verb_cases x with ⟨_, hv⟩ | ⟨_, hv⟩ | ⟨_, hv⟩ | ⟨_, hv⟩ | ⟨_, hv⟩ | ⟨_, hv⟩
  ·
    refine Good.callv (fun w1 hw h => rverb_m hv) (by kernel_rfl) (fun u => ?_)
    refine Good.run (by kernel_rfl) (stop := 1000) 1000 _ ?_
    refine Good.cond false (by kernel_rfl) ?_
    refine Good.run (by kernel_rfl) (stop := 1000) 1000 _ ?_
    refine Good.slot 7 (.int .i64 (IntKind.i64.wrap ((i : Int) + 1))) (.int .i64 ((i + 1 : Nat) : Int)) (by kernel_rfl) (by rw [wrap_succ hlt (by omega)]) ?_
    refine Good.make (litS (33) 5 #[(0, .int .i64 1), (1, .int .i64 1), (2, .int .i64 2), (3, .int .i64 3), (4, .int .i64 0)]) (litV 5) (litG 3 #[.int .i64 1, .int .i64 1, .int .i64 2, .int .i64 3, .int .i64 0]) (by kernel_rfl) (fun w1 hw h => make_lit (by kernel_rfl)) (fun gm => ?_)
    refine Good.run (by kernel_rfl) (stop := 1000) 1000 _ ?_
    refine Good.ask (idxS 33 (.slice (some ⟨gm, 0, none⟩) 5 5) (0 : Nat)) (.pointer (some ⟨gm, 0 * 1, none⟩)) (by kernel_rfl) (fun w1 hw h => run_idxN (elem := 3) (by kernel_rfl) (by kernel_rfl) (by decide)) ?_
    refine Good.run (by kernel_rfl) (stop := 1000) 1000 _ ?_
    refine Good.ask (ldS 3 ⟨gm, 0 * 1, none⟩) (.int .i64 1) (by kernel_rfl) (fun w1 hw h => run_ldS (by kernel_rfl) (lit_cell h.2 rfl)) ?_
    refine Good.run (by kernel_rfl) (stop := 1000) 1000 _ ?_
    refine Good.un (by kernel_rfl) ?_
    refine Good.run (by kernel_rfl) (stop := 1000) 1000 _ ?_
    refine Good.cond true (by kernel_rfl) ?_
    refine Good.run (by kernel_rfl) (stop := 1000) 1000 _ ?_
    have hb00 : i + 1 ≤ n := by omega
    refine Good.callv (fun w1 hw h => rnumber_m (A := A) (n := n) (c := c) (x := ((i + 1 : Nat) : Int)) (i := i + 1) (h.1.1.1.strs) rfl (by omega) (by omega) hmem rfl rfl) (by kernel_rfl) (fun u00 => ?_)
    refine Good.run (by kernel_rfl) (stop := 1000) 1000 _ ?_
    by_cases e0a : numE ws (i + 1) = 0
    case neg =>
      have hf : failAt ws (2 * (namedI 1).toNat) (i + 1) = some (i + 1) := by
        show failAt ws 2 (i + 1) = _
        rw [failAt, if_neg e0a]
      rw [pw_fail hx hv (by decide) hf] at hR
      obtain ⟨rfl, rfl, rfl⟩ : [] = out ∧ i + 1 = at_ ∧ numE ws (i + 1) = e := by cases hR; exact ⟨rfl, rfl, rfl⟩
      have hle : i + 1 ≤ n := by omega
      refine Good.condr ((numE ws (i + 1) != 0)) true (by kernel_rfl) (by simpa using e0a) ?_
      refine Good.run (by kernel_rfl) (stop := 3) 1000 _ ?_
      refine Good.ask (minS 3 (i + 1 : Nat) (n : Nat)) (.int .i64 (min (i + 1) n : Nat)) (by kernel_rfl) (fun w1 hw h => run_minS) ?_
      refine Good.run (by kernel_rfl) (stop := 1000) 1000 _ ?_
      refine Good.leave (by kernel_rfl) ?_
      refine Good.run (by kernel_rfl) (stop := 1000) 1000 _ ?_
      refine Good.ret (v := .tuple #[.slice none 0 0, .int .i64 (min (i + 1) n : Nat), .int .i64 (numE ws (i + 1))]) (by kernel_rfl) (fun w1 hw h => ⟨(none, 0), by rw [Nat.min_eq_left hle]; rfl, hw, fun _ _ _ => ⟨rfl, fun k s hk => by simp at hk⟩⟩)
    have hlt00 : i + 1 < n := by
      rcases Nat.lt_or_ge (i + 1) n with h1 | h1
      · exact h1
      · rw [numE, List.getElem?_eq_none (by omega)] at e0a; exact absurd e0a (by decide)
    refine Good.condr ((numE ws (i + 1) != 0)) false (by kernel_rfl) (by simpa using e0a) ?_
    refine Good.run (by kernel_rfl) (stop := 1000) 1000 _ ?_
    refine Good.callv (fun w1 hw h => rnumber_m (A := A) (n := n) (c := c) (x := (IntKind.i64.wrap (((i + 1 : Nat) : Int) + 1))) (i := i + 1 + 1) (h.1.1.1.1.strs) (by rw [wrap_succ (n := n) (by omega) (by omega)]) (by omega) (by omega) hmem rfl rfl) (by kernel_rfl) (fun u01 => ?_)
    refine Good.run (by kernel_rfl) (stop := 1000) 1000 _ ?_
    by_cases e0b : numE ws (i + 1 + 1) = 0
    case neg =>
      have hf : failAt ws (2 * (namedI 1).toNat) (i + 1) = some (i + 1 + 1) := by
        show failAt ws 2 (i + 1) = _
        rw [failAt, if_pos e0a, failAt, if_neg e0b]
      rw [pw_fail hx hv (by decide) hf] at hR
      obtain ⟨rfl, rfl, rfl⟩ : [] = out ∧ i + 1 + 1 = at_ ∧ numE ws (i + 1 + 1) = e := by cases hR; exact ⟨rfl, rfl, rfl⟩
      have hle : i + 1 + 1 ≤ n := by omega
      refine Good.condr ((numE ws (i + 1 + 1) != 0)) true (by kernel_rfl) (by simpa using e0b) ?_
      refine Good.run (by kernel_rfl) (stop := 4) 1000 _ ?_
      refine Good.slot 73 (.int .i64 (IntKind.i64.wrap (((i + 1 : Nat) : Int) + 1))) (.int .i64 ((i + 1 + 1 : Nat) : Int)) (by kernel_rfl) (by rw [wrap_succ (n := n) (by omega) (by omega)]) ?_
      refine Good.ask (minS 3 (i + 1 + 1 : Nat) (n : Nat)) (.int .i64 (min (i + 1 + 1) n : Nat)) (by kernel_rfl) (fun w1 hw h => run_minS) ?_
      refine Good.run (by kernel_rfl) (stop := 1000) 1000 _ ?_
      refine Good.leave (by kernel_rfl) ?_
      refine Good.run (by kernel_rfl) (stop := 1000) 1000 _ ?_
      refine Good.ret (v := .tuple #[.slice none 0 0, .int .i64 (min (i + 1 + 1) n : Nat), .int .i64 (numE ws (i + 1 + 1))]) (by kernel_rfl) (fun w1 hw h => ⟨(none, 0), by rw [Nat.min_eq_left hle]; rfl, hw, fun _ _ _ => ⟨rfl, fun k s hk => by simp at hk⟩⟩)
    have hlt01 : i + 1 + 1 < n := by
      rcases Nat.lt_or_ge (i + 1 + 1) n with h1 | h1
      · exact h1
      · rw [numE, List.getElem?_eq_none (by omega)] at e0b; exact absurd e0b (by decide)
    refine Good.condr ((numE ws (i + 1 + 1) != 0)) false (by kernel_rfl) (by simpa using e0b) ?_
    refine Good.run (by kernel_rfl) (stop := 1000) 1000 _ ?_
    refine Good.slot 7 (.int .i64 (IntKind.i64.wrap (((i + 1 : Nat) : Int) + 2))) (.int .i64 ((i + 1 + 1 + 1 : Nat) : Int)) (by kernel_rfl) (by rw [wrap_two (n := n + 1) (by omega) (by omega)]) ?_
    refine Good.cond true (by kernel_rfl) ?_
    refine Good.run (by kernel_rfl) (stop := 1000) 1000 _ ?_
    refine Good.cond false (by kernel_rfl) ?_
    refine Good.run (by kernel_rfl) (stop := 1000) 1000 _ ?_
    have hf : failAt ws (2 * (namedI 1).toNat) (i + 1) = none := by
      show failAt ws 2 (i + 1) = _
      rw [failAt, if_pos e0a, failAt, if_pos e0b, failAt]
    rw [pw_step hx hv (by decide) hf] at hR
    refine Good.make (litS 22 1 #[(0, Sg.val ⟨1, numV ws (i + 1), numV ws (i + 1 + 1), 0, 0, 0, 0⟩)]) (litV 1) (litG 41 (Sg.cl ⟨1, numV ws (i + 1), numV ws (i + 1 + 1), 0, 0, 0, 0⟩).toArray) (by kernel_rfl) (fun w1 hw h => make_lit (by kernel_rfl)) (fun gb => ?_)
    refine Good.run (by kernel_rfl) (stop := 3) 1000 _ ?_
    refine Good.mutOp (L := bl y) (val := fun (z : Option Addr × Nat) => .slice z.1 (m + 1) z.2) (Φ' := fun (z : Option Addr × Nat) vv => OwnR vv w.heap.size 9 1 A n c (sv ws) ∧ OwnR vv w.heap.size 41 7 z.1 (m + 1) z.2 (gv (acc ++ [Sg.mk 1 (numV ws (i + 1)) (numV ws (i + 1 + 1)) 0 0 0 0]))) (G := fun (z : Option Addr × Nat) vv => OwnR vv w.heap.size 41 7 z.1 (m + 1) z.2 (gv (acc ++ [Sg.mk 1 (numV ws (i + 1)) (numV ws (i + 1 + 1)) 0 0 0 0]))) (appS 22 22 (.slice y m yc) (litV 1 gb)) (fun w1 hw h => app_seg (show OwnR w1 w.heap.size 41 7 y m yc (gv acc) from h.1.1.1.1.1.2) hw.size h.2 (show m < 1000000 from by omega)) (fun w1 h => fun b hb => ⟨((show OwnR w1 w.heap.size 41 7 y m yc (gv acc) from h.1.1.1.1.1.2).lt b hb).1, ((show OwnR w1 w.heap.size 41 7 y m yc (gv acc) from h.1.1.1.1.1.2).blk b hb).2⟩) (fun z wa w1 e1 e2 h hG => ⟨(show OwnR wa w.heap.size 9 1 A n c (sv ws) from h.1.1.1.1.1.1).left e2 (seg_ne h.1.1.1.1.1.1 h.1.1.1.1.1.2), hG⟩) (by kernel_rfl) (by kernel_rfl) (fun z => ?_)
    refine Good.run (by kernel_rfl) (stop := 1000) 1000 _ ?_
    refine Good.next (⟨((i + 1 + 1 + 1, m + 1, acc ++ [Sg.mk 1 (numV ws (i + 1)) (numV ws (i + 1 + 1)) 0 0 0 0]), z), by show i + 1 + 1 + 1 ≤ n; omega, by show m + 1 ≤ i + 1 + 1 + 1; omega, by show (acc ++ _).length = m + 1; rw [List.length_append, hacc]; rfl, hR⟩) (by kernel_rfl) (by show n - (i + 1 + 1 + 1) < n - i; omega) ⟨by kernel_rfl, by kernel_rfl, by kernel_rfl⟩ (fun u h => h)
  ·
    refine Good.callv (fun w1 hw h => rverb_m hv) (by kernel_rfl) (fun u => ?_)
    refine Good.run (by kernel_rfl) (stop := 1000) 1000 _ ?_
    refine Good.cond false (by kernel_rfl) ?_
    refine Good.run (by kernel_rfl) (stop := 1000) 1000 _ ?_
    refine Good.slot 7 (.int .i64 (IntKind.i64.wrap ((i : Int) + 1))) (.int .i64 ((i + 1 : Nat) : Int)) (by kernel_rfl) (by rw [wrap_succ hlt (by omega)]) ?_
    refine Good.make (litS (33) 5 #[(0, .int .i64 1), (1, .int .i64 1), (2, .int .i64 2), (3, .int .i64 3), (4, .int .i64 0)]) (litV 5) (litG 3 #[.int .i64 1, .int .i64 1, .int .i64 2, .int .i64 3, .int .i64 0]) (by kernel_rfl) (fun w1 hw h => make_lit (by kernel_rfl)) (fun gm => ?_)
    refine Good.run (by kernel_rfl) (stop := 1000) 1000 _ ?_
    refine Good.ask (idxS 33 (.slice (some ⟨gm, 0, none⟩) 5 5) (1 : Nat)) (.pointer (some ⟨gm, 1 * 1, none⟩)) (by kernel_rfl) (fun w1 hw h => run_idxN (elem := 3) (by kernel_rfl) (by kernel_rfl) (by decide)) ?_
    refine Good.run (by kernel_rfl) (stop := 1000) 1000 _ ?_
    refine Good.ask (ldS 3 ⟨gm, 1 * 1, none⟩) (.int .i64 1) (by kernel_rfl) (fun w1 hw h => run_ldS (by kernel_rfl) (lit_cell h.2 rfl)) ?_
    refine Good.run (by kernel_rfl) (stop := 1000) 1000 _ ?_
    refine Good.un (by kernel_rfl) ?_
    refine Good.run (by kernel_rfl) (stop := 1000) 1000 _ ?_
    refine Good.cond true (by kernel_rfl) ?_
    refine Good.run (by kernel_rfl) (stop := 1000) 1000 _ ?_
    have hb00 : i + 1 ≤ n := by omega
    refine Good.callv (fun w1 hw h => rnumber_m (A := A) (n := n) (c := c) (x := ((i + 1 : Nat) : Int)) (i := i + 1) (h.1.1.1.strs) rfl (by omega) (by omega) hmem rfl rfl) (by kernel_rfl) (fun u00 => ?_)
    refine Good.run (by kernel_rfl) (stop := 1000) 1000 _ ?_
    by_cases e0a : numE ws (i + 1) = 0
    case neg =>
      have hf : failAt ws (2 * (namedI 2).toNat) (i + 1) = some (i + 1) := by
        show failAt ws 2 (i + 1) = _
        rw [failAt, if_neg e0a]
      rw [pw_fail hx hv (by decide) hf] at hR
      obtain ⟨rfl, rfl, rfl⟩ : [] = out ∧ i + 1 = at_ ∧ numE ws (i + 1) = e := by cases hR; exact ⟨rfl, rfl, rfl⟩
      have hle : i + 1 ≤ n := by omega
      refine Good.condr ((numE ws (i + 1) != 0)) true (by kernel_rfl) (by simpa using e0a) ?_
      refine Good.run (by kernel_rfl) (stop := 3) 1000 _ ?_
      refine Good.ask (minS 3 (i + 1 : Nat) (n : Nat)) (.int .i64 (min (i + 1) n : Nat)) (by kernel_rfl) (fun w1 hw h => run_minS) ?_
      refine Good.run (by kernel_rfl) (stop := 1000) 1000 _ ?_
      refine Good.leave (by kernel_rfl) ?_
      refine Good.run (by kernel_rfl) (stop := 1000) 1000 _ ?_
      refine Good.ret (v := .tuple #[.slice none 0 0, .int .i64 (min (i + 1) n : Nat), .int .i64 (numE ws (i + 1))]) (by kernel_rfl) (fun w1 hw h => ⟨(none, 0), by rw [Nat.min_eq_left hle]; rfl, hw, fun _ _ _ => ⟨rfl, fun k s hk => by simp at hk⟩⟩)
    have hlt00 : i + 1 < n := by
      rcases Nat.lt_or_ge (i + 1) n with h1 | h1
      · exact h1
      · rw [numE, List.getElem?_eq_none (by omega)] at e0a; exact absurd e0a (by decide)
    refine Good.condr ((numE ws (i + 1) != 0)) false (by kernel_rfl) (by simpa using e0a) ?_
    refine Good.run (by kernel_rfl) (stop := 1000) 1000 _ ?_
    refine Good.callv (fun w1 hw h => rnumber_m (A := A) (n := n) (c := c) (x := (IntKind.i64.wrap (((i + 1 : Nat) : Int) + 1))) (i := i + 1 + 1) (h.1.1.1.1.strs) (by rw [wrap_succ (n := n) (by omega) (by omega)]) (by omega) (by omega) hmem rfl rfl) (by kernel_rfl) (fun u01 => ?_)
    refine Good.run (by kernel_rfl) (stop := 1000) 1000 _ ?_
    by_cases e0b : numE ws (i + 1 + 1) = 0
    case neg =>
      have hf : failAt ws (2 * (namedI 2).toNat) (i + 1) = some (i + 1 + 1) := by
        show failAt ws 2 (i + 1) = _
        rw [failAt, if_pos e0a, failAt, if_neg e0b]
      rw [pw_fail hx hv (by decide) hf] at hR
      obtain ⟨rfl, rfl, rfl⟩ : [] = out ∧ i + 1 + 1 = at_ ∧ numE ws (i + 1 + 1) = e := by cases hR; exact ⟨rfl, rfl, rfl⟩
      have hle : i + 1 + 1 ≤ n := by omega
      refine Good.condr ((numE ws (i + 1 + 1) != 0)) true (by kernel_rfl) (by simpa using e0b) ?_
      refine Good.run (by kernel_rfl) (stop := 4) 1000 _ ?_
      refine Good.slot 73 (.int .i64 (IntKind.i64.wrap (((i + 1 : Nat) : Int) + 1))) (.int .i64 ((i + 1 + 1 : Nat) : Int)) (by kernel_rfl) (by rw [wrap_succ (n := n) (by omega) (by omega)]) ?_
      refine Good.ask (minS 3 (i + 1 + 1 : Nat) (n : Nat)) (.int .i64 (min (i + 1 + 1) n : Nat)) (by kernel_rfl) (fun w1 hw h => run_minS) ?_
      refine Good.run (by kernel_rfl) (stop := 1000) 1000 _ ?_
      refine Good.leave (by kernel_rfl) ?_
      refine Good.run (by kernel_rfl) (stop := 1000) 1000 _ ?_
      refine Good.ret (v := .tuple #[.slice none 0 0, .int .i64 (min (i + 1 + 1) n : Nat), .int .i64 (numE ws (i + 1 + 1))]) (by kernel_rfl) (fun w1 hw h => ⟨(none, 0), by rw [Nat.min_eq_left hle]; rfl, hw, fun _ _ _ => ⟨rfl, fun k s hk => by simp at hk⟩⟩)
    have hlt01 : i + 1 + 1 < n := by
      rcases Nat.lt_or_ge (i + 1 + 1) n with h1 | h1
      · exact h1
      · rw [numE, List.getElem?_eq_none (by omega)] at e0b; exact absurd e0b (by decide)
    refine Good.condr ((numE ws (i + 1 + 1) != 0)) false (by kernel_rfl) (by simpa using e0b) ?_
    refine Good.run (by kernel_rfl) (stop := 1000) 1000 _ ?_
    refine Good.slot 7 (.int .i64 (IntKind.i64.wrap (((i + 1 : Nat) : Int) + 2))) (.int .i64 ((i + 1 + 1 + 1 : Nat) : Int)) (by kernel_rfl) (by rw [wrap_two (n := n + 1) (by omega) (by omega)]) ?_
    refine Good.cond true (by kernel_rfl) ?_
    refine Good.run (by kernel_rfl) (stop := 1000) 1000 _ ?_
    refine Good.cond false (by kernel_rfl) ?_
    refine Good.run (by kernel_rfl) (stop := 1000) 1000 _ ?_
    have hf : failAt ws (2 * (namedI 2).toNat) (i + 1) = none := by
      show failAt ws 2 (i + 1) = _
      rw [failAt, if_pos e0a, failAt, if_pos e0b, failAt]
    rw [pw_step hx hv (by decide) hf] at hR
    refine Good.make (litS 22 1 #[(0, Sg.val ⟨2, numV ws (i + 1), numV ws (i + 1 + 1), 0, 0, 0, 0⟩)]) (litV 1) (litG 41 (Sg.cl ⟨2, numV ws (i + 1), numV ws (i + 1 + 1), 0, 0, 0, 0⟩).toArray) (by kernel_rfl) (fun w1 hw h => make_lit (by kernel_rfl)) (fun gb => ?_)
    refine Good.run (by kernel_rfl) (stop := 3) 1000 _ ?_
    refine Good.mutOp (L := bl y) (val := fun (z : Option Addr × Nat) => .slice z.1 (m + 1) z.2) (Φ' := fun (z : Option Addr × Nat) vv => OwnR vv w.heap.size 9 1 A n c (sv ws) ∧ OwnR vv w.heap.size 41 7 z.1 (m + 1) z.2 (gv (acc ++ [Sg.mk 2 (numV ws (i + 1)) (numV ws (i + 1 + 1)) 0 0 0 0]))) (G := fun (z : Option Addr × Nat) vv => OwnR vv w.heap.size 41 7 z.1 (m + 1) z.2 (gv (acc ++ [Sg.mk 2 (numV ws (i + 1)) (numV ws (i + 1 + 1)) 0 0 0 0]))) (appS 22 22 (.slice y m yc) (litV 1 gb)) (fun w1 hw h => app_seg (show OwnR w1 w.heap.size 41 7 y m yc (gv acc) from h.1.1.1.1.1.2) hw.size h.2 (show m < 1000000 from by omega)) (fun w1 h => fun b hb => ⟨((show OwnR w1 w.heap.size 41 7 y m yc (gv acc) from h.1.1.1.1.1.2).lt b hb).1, ((show OwnR w1 w.heap.size 41 7 y m yc (gv acc) from h.1.1.1.1.1.2).blk b hb).2⟩) (fun z wa w1 e1 e2 h hG => ⟨(show OwnR wa w.heap.size 9 1 A n c (sv ws) from h.1.1.1.1.1.1).left e2 (seg_ne h.1.1.1.1.1.1 h.1.1.1.1.1.2), hG⟩) (by kernel_rfl) (by kernel_rfl) (fun z => ?_)
    refine Good.run (by kernel_rfl) (stop := 1000) 1000 _ ?_
    refine Good.next (⟨((i + 1 + 1 + 1, m + 1, acc ++ [Sg.mk 2 (numV ws (i + 1)) (numV ws (i + 1 + 1)) 0 0 0 0]), z), by show i + 1 + 1 + 1 ≤ n; omega, by show m + 1 ≤ i + 1 + 1 + 1; omega, by show (acc ++ _).length = m + 1; rw [List.length_append, hacc]; rfl, hR⟩) (by kernel_rfl) (by show n - (i + 1 + 1 + 1) < n - i; omega) ⟨by kernel_rfl, by kernel_rfl, by kernel_rfl⟩ (fun u h => h)
  ·
    refine Good.callv (fun w1 hw h => rverb_m hv) (by kernel_rfl) (fun u => ?_)
    refine Good.run (by kernel_rfl) (stop := 1000) 1000 _ ?_
    refine Good.cond false (by kernel_rfl) ?_
    refine Good.run (by kernel_rfl) (stop := 1000) 1000 _ ?_
    refine Good.slot 7 (.int .i64 (IntKind.i64.wrap ((i : Int) + 1))) (.int .i64 ((i + 1 : Nat) : Int)) (by kernel_rfl) (by rw [wrap_succ hlt (by omega)]) ?_
    refine Good.make (litS (33) 5 #[(0, .int .i64 1), (1, .int .i64 1), (2, .int .i64 2), (3, .int .i64 3), (4, .int .i64 0)]) (litV 5) (litG 3 #[.int .i64 1, .int .i64 1, .int .i64 2, .int .i64 3, .int .i64 0]) (by kernel_rfl) (fun w1 hw h => make_lit (by kernel_rfl)) (fun gm => ?_)
    refine Good.run (by kernel_rfl) (stop := 1000) 1000 _ ?_
    refine Good.ask (idxS 33 (.slice (some ⟨gm, 0, none⟩) 5 5) (2 : Nat)) (.pointer (some ⟨gm, 2 * 1, none⟩)) (by kernel_rfl) (fun w1 hw h => run_idxN (elem := 3) (by kernel_rfl) (by kernel_rfl) (by decide)) ?_
    refine Good.run (by kernel_rfl) (stop := 1000) 1000 _ ?_
    refine Good.ask (ldS 3 ⟨gm, 2 * 1, none⟩) (.int .i64 2) (by kernel_rfl) (fun w1 hw h => run_ldS (by kernel_rfl) (lit_cell h.2 rfl)) ?_
    refine Good.run (by kernel_rfl) (stop := 1000) 1000 _ ?_
    refine Good.un (by kernel_rfl) ?_
    refine Good.run (by kernel_rfl) (stop := 1000) 1000 _ ?_
    refine Good.cond true (by kernel_rfl) ?_
    refine Good.run (by kernel_rfl) (stop := 1000) 1000 _ ?_
    have hb00 : i + 1 ≤ n := by omega
    refine Good.callv (fun w1 hw h => rnumber_m (A := A) (n := n) (c := c) (x := ((i + 1 : Nat) : Int)) (i := i + 1) (h.1.1.1.strs) rfl (by omega) (by omega) hmem rfl rfl) (by kernel_rfl) (fun u00 => ?_)
    refine Good.run (by kernel_rfl) (stop := 1000) 1000 _ ?_
    by_cases e0a : numE ws (i + 1) = 0
    case neg =>
      have hf : failAt ws (2 * (namedI 3).toNat) (i + 1) = some (i + 1) := by
        show failAt ws 4 (i + 1) = _
        rw [failAt, if_neg e0a]
      rw [pw_fail hx hv (by decide) hf] at hR
      obtain ⟨rfl, rfl, rfl⟩ : [] = out ∧ i + 1 = at_ ∧ numE ws (i + 1) = e := by cases hR; exact ⟨rfl, rfl, rfl⟩
      have hle : i + 1 ≤ n := by omega
      refine Good.condr ((numE ws (i + 1) != 0)) true (by kernel_rfl) (by simpa using e0a) ?_
      refine Good.run (by kernel_rfl) (stop := 3) 1000 _ ?_
      refine Good.ask (minS 3 (i + 1 : Nat) (n : Nat)) (.int .i64 (min (i + 1) n : Nat)) (by kernel_rfl) (fun w1 hw h => run_minS) ?_
      refine Good.run (by kernel_rfl) (stop := 1000) 1000 _ ?_
      refine Good.leave (by kernel_rfl) ?_
      refine Good.run (by kernel_rfl) (stop := 1000) 1000 _ ?_
      refine Good.ret (v := .tuple #[.slice none 0 0, .int .i64 (min (i + 1) n : Nat), .int .i64 (numE ws (i + 1))]) (by kernel_rfl) (fun w1 hw h => ⟨(none, 0), by rw [Nat.min_eq_left hle]; rfl, hw, fun _ _ _ => ⟨rfl, fun k s hk => by simp at hk⟩⟩)
    have hlt00 : i + 1 < n := by
      rcases Nat.lt_or_ge (i + 1) n with h1 | h1
      · exact h1
      · rw [numE, List.getElem?_eq_none (by omega)] at e0a; exact absurd e0a (by decide)
    refine Good.condr ((numE ws (i + 1) != 0)) false (by kernel_rfl) (by simpa using e0a) ?_
    refine Good.run (by kernel_rfl) (stop := 1000) 1000 _ ?_
    refine Good.callv (fun w1 hw h => rnumber_m (A := A) (n := n) (c := c) (x := (IntKind.i64.wrap (((i + 1 : Nat) : Int) + 1))) (i := i + 1 + 1) (h.1.1.1.1.strs) (by rw [wrap_succ (n := n) (by omega) (by omega)]) (by omega) (by omega) hmem rfl rfl) (by kernel_rfl) (fun u01 => ?_)
    refine Good.run (by kernel_rfl) (stop := 1000) 1000 _ ?_
    by_cases e0b : numE ws (i + 1 + 1) = 0
    case neg =>
      have hf : failAt ws (2 * (namedI 3).toNat) (i + 1) = some (i + 1 + 1) := by
        show failAt ws 4 (i + 1) = _
        rw [failAt, if_pos e0a, failAt, if_neg e0b]
      rw [pw_fail hx hv (by decide) hf] at hR
      obtain ⟨rfl, rfl, rfl⟩ : [] = out ∧ i + 1 + 1 = at_ ∧ numE ws (i + 1 + 1) = e := by cases hR; exact ⟨rfl, rfl, rfl⟩
      have hle : i + 1 + 1 ≤ n := by omega
      refine Good.condr ((numE ws (i + 1 + 1) != 0)) true (by kernel_rfl) (by simpa using e0b) ?_
      refine Good.run (by kernel_rfl) (stop := 4) 1000 _ ?_
      refine Good.slot 73 (.int .i64 (IntKind.i64.wrap (((i + 1 : Nat) : Int) + 1))) (.int .i64 ((i + 1 + 1 : Nat) : Int)) (by kernel_rfl) (by rw [wrap_succ (n := n) (by omega) (by omega)]) ?_
      refine Good.ask (minS 3 (i + 1 + 1 : Nat) (n : Nat)) (.int .i64 (min (i + 1 + 1) n : Nat)) (by kernel_rfl) (fun w1 hw h => run_minS) ?_
      refine Good.run (by kernel_rfl) (stop := 1000) 1000 _ ?_
      refine Good.leave (by kernel_rfl) ?_
      refine Good.run (by kernel_rfl) (stop := 1000) 1000 _ ?_
      refine Good.ret (v := .tuple #[.slice none 0 0, .int .i64 (min (i + 1 + 1) n : Nat), .int .i64 (numE ws (i + 1 + 1))]) (by kernel_rfl) (fun w1 hw h => ⟨(none, 0), by rw [Nat.min_eq_left hle]; rfl, hw, fun _ _ _ => ⟨rfl, fun k s hk => by simp at hk⟩⟩)
    have hlt01 : i + 1 + 1 < n := by
      rcases Nat.lt_or_ge (i + 1 + 1) n with h1 | h1
      · exact h1
      · rw [numE, List.getElem?_eq_none (by omega)] at e0b; exact absurd e0b (by decide)
    refine Good.condr ((numE ws (i + 1 + 1) != 0)) false (by kernel_rfl) (by simpa using e0b) ?_
    refine Good.run (by kernel_rfl) (stop := 1000) 1000 _ ?_
    refine Good.slot 7 (.int .i64 (IntKind.i64.wrap (((i + 1 : Nat) : Int) + 2))) (.int .i64 ((i + 1 + 1 + 1 : Nat) : Int)) (by kernel_rfl) (by rw [wrap_two (n := n + 1) (by omega) (by omega)]) ?_
    refine Good.cond true (by kernel_rfl) ?_
    refine Good.run (by kernel_rfl) (stop := 1000) 1000 _ ?_
    refine Good.drop 15 (by kernel_rfl) (fun g1 => ?_)
    refine Good.cond true (by kernel_rfl) ?_
    refine Good.run (by kernel_rfl) (stop := 1000) 1000 _ ?_
    refine Good.callv (fun w1 hw h => rnumber_m (A := A) (n := n) (c := c) (x := ((i + 1 + 1 + 1 : Nat) : Int)) (i := i + 1 + 1 + 1) (h.1.1.1.1.1.strs) rfl (by omega) (by omega) hmem rfl rfl) (by kernel_rfl) (fun u10 => ?_)
    refine Good.run (by kernel_rfl) (stop := 1000) 1000 _ ?_
    by_cases e1a : numE ws (i + 1 + 1 + 1) = 0
    case neg =>
      have hf : failAt ws (2 * (namedI 3).toNat) (i + 1) = some (i + 1 + 1 + 1) := by
        show failAt ws 4 (i + 1) = _
        rw [failAt, if_pos e0a, failAt, if_pos e0b, failAt, if_neg e1a]
      rw [pw_fail hx hv (by decide) hf] at hR
      obtain ⟨rfl, rfl, rfl⟩ : [] = out ∧ i + 1 + 1 + 1 = at_ ∧ numE ws (i + 1 + 1 + 1) = e := by cases hR; exact ⟨rfl, rfl, rfl⟩
      have hle : i + 1 + 1 + 1 ≤ n := by omega
      refine Good.condr ((numE ws (i + 1 + 1 + 1) != 0)) true (by kernel_rfl) (by simpa using e1a) ?_
      refine Good.run (by kernel_rfl) (stop := 3) 1000 _ ?_
      refine Good.ask (minS 3 (i + 1 + 1 + 1 : Nat) (n : Nat)) (.int .i64 (min (i + 1 + 1 + 1) n : Nat)) (by kernel_rfl) (fun w1 hw h => run_minS) ?_
      refine Good.run (by kernel_rfl) (stop := 1000) 1000 _ ?_
      refine Good.leave (by kernel_rfl) ?_
      refine Good.run (by kernel_rfl) (stop := 1000) 1000 _ ?_
      refine Good.ret (v := .tuple #[.slice none 0 0, .int .i64 (min (i + 1 + 1 + 1) n : Nat), .int .i64 (numE ws (i + 1 + 1 + 1))]) (by kernel_rfl) (fun w1 hw h => ⟨(none, 0), by rw [Nat.min_eq_left hle]; rfl, hw, fun _ _ _ => ⟨rfl, fun k s hk => by simp at hk⟩⟩)
    have hlt10 : i + 1 + 1 + 1 < n := by
      rcases Nat.lt_or_ge (i + 1 + 1 + 1) n with h1 | h1
      · exact h1
      · rw [numE, List.getElem?_eq_none (by omega)] at e1a; exact absurd e1a (by decide)
    refine Good.condr ((numE ws (i + 1 + 1 + 1) != 0)) false (by kernel_rfl) (by simpa using e1a) ?_
    refine Good.run (by kernel_rfl) (stop := 1000) 1000 _ ?_
    refine Good.callv (fun w1 hw h => rnumber_m (A := A) (n := n) (c := c) (x := (IntKind.i64.wrap (((i + 1 + 1 + 1 : Nat) : Int) + 1))) (i := i + 1 + 1 + 1 + 1) (h.1.1.1.1.1.1.strs) (by rw [wrap_succ (n := n) (by omega) (by omega)]) (by omega) (by omega) hmem rfl rfl) (by kernel_rfl) (fun u11 => ?_)
    refine Good.run (by kernel_rfl) (stop := 1000) 1000 _ ?_
    by_cases e1b : numE ws (i + 1 + 1 + 1 + 1) = 0
    case neg =>
      have hf : failAt ws (2 * (namedI 3).toNat) (i + 1) = some (i + 1 + 1 + 1 + 1) := by
        show failAt ws 4 (i + 1) = _
        rw [failAt, if_pos e0a, failAt, if_pos e0b, failAt, if_pos e1a, failAt, if_neg e1b]
      rw [pw_fail hx hv (by decide) hf] at hR
      obtain ⟨rfl, rfl, rfl⟩ : [] = out ∧ i + 1 + 1 + 1 + 1 = at_ ∧ numE ws (i + 1 + 1 + 1 + 1) = e := by cases hR; exact ⟨rfl, rfl, rfl⟩
      have hle : i + 1 + 1 + 1 + 1 ≤ n := by omega
      refine Good.condr ((numE ws (i + 1 + 1 + 1 + 1) != 0)) true (by kernel_rfl) (by simpa using e1b) ?_
      refine Good.run (by kernel_rfl) (stop := 4) 1000 _ ?_
      refine Good.slot 73 (.int .i64 (IntKind.i64.wrap (((i + 1 + 1 + 1 : Nat) : Int) + 1))) (.int .i64 ((i + 1 + 1 + 1 + 1 : Nat) : Int)) (by kernel_rfl) (by rw [wrap_succ (n := n) (by omega) (by omega)]) ?_
      refine Good.ask (minS 3 (i + 1 + 1 + 1 + 1 : Nat) (n : Nat)) (.int .i64 (min (i + 1 + 1 + 1 + 1) n : Nat)) (by kernel_rfl) (fun w1 hw h => run_minS) ?_
      refine Good.run (by kernel_rfl) (stop := 1000) 1000 _ ?_
      refine Good.leave (by kernel_rfl) ?_
      refine Good.run (by kernel_rfl) (stop := 1000) 1000 _ ?_
      refine Good.ret (v := .tuple #[.slice none 0 0, .int .i64 (min (i + 1 + 1 + 1 + 1) n : Nat), .int .i64 (numE ws (i + 1 + 1 + 1 + 1))]) (by kernel_rfl) (fun w1 hw h => ⟨(none, 0), by rw [Nat.min_eq_left hle]; rfl, hw, fun _ _ _ => ⟨rfl, fun k s hk => by simp at hk⟩⟩)
    have hlt11 : i + 1 + 1 + 1 + 1 < n := by
      rcases Nat.lt_or_ge (i + 1 + 1 + 1 + 1) n with h1 | h1
      · exact h1
      · rw [numE, List.getElem?_eq_none (by omega)] at e1b; exact absurd e1b (by decide)
    refine Good.condr ((numE ws (i + 1 + 1 + 1 + 1) != 0)) false (by kernel_rfl) (by simpa using e1b) ?_
    refine Good.run (by kernel_rfl) (stop := 1000) 1000 _ ?_
    refine Good.slot 7 (.int .i64 (IntKind.i64.wrap (((i + 1 + 1 + 1 : Nat) : Int) + 2))) (.int .i64 ((i + 1 + 1 + 1 + 1 + 1 : Nat) : Int)) (by kernel_rfl) (by rw [wrap_two (n := n + 1) (by omega) (by omega)]) ?_
    refine Good.cond false (by kernel_rfl) ?_
    refine Good.run (by kernel_rfl) (stop := 1000) 1000 _ ?_
    refine Good.cond true (by kernel_rfl) ?_
    refine Good.run (by kernel_rfl) (stop := 1000) 1000 _ ?_
    refine Good.cond false (by kernel_rfl) ?_
    refine Good.run (by kernel_rfl) (stop := 1000) 1000 _ ?_
    have hf : failAt ws (2 * (namedI 3).toNat) (i + 1) = none := by
      show failAt ws 4 (i + 1) = _
      rw [failAt, if_pos e0a, failAt, if_pos e0b, failAt, if_pos e1a, failAt, if_pos e1b, failAt]
    rw [pw_step hx hv (by decide) hf] at hR
    refine Good.make (litS 22 1 #[(0, Sg.val ⟨3, numV ws (i + 1), numV ws (i + 1 + 1), numV ws (i + 1 + 1 + 1), numV ws (i + 1 + 1 + 1 + 1), 0, 0⟩)]) (litV 1) (litG 41 (Sg.cl ⟨3, numV ws (i + 1), numV ws (i + 1 + 1), numV ws (i + 1 + 1 + 1), numV ws (i + 1 + 1 + 1 + 1), 0, 0⟩).toArray) (by kernel_rfl) (fun w1 hw h => make_lit (by kernel_rfl)) (fun gb => ?_)
    refine Good.run (by kernel_rfl) (stop := 3) 1000 _ ?_
    refine Good.mutOp (L := bl y) (val := fun (z : Option Addr × Nat) => .slice z.1 (m + 1) z.2) (Φ' := fun (z : Option Addr × Nat) vv => OwnR vv w.heap.size 9 1 A n c (sv ws) ∧ OwnR vv w.heap.size 41 7 z.1 (m + 1) z.2 (gv (acc ++ [Sg.mk 3 (numV ws (i + 1)) (numV ws (i + 1 + 1)) (numV ws (i + 1 + 1 + 1)) (numV ws (i + 1 + 1 + 1 + 1)) 0 0]))) (G := fun (z : Option Addr × Nat) vv => OwnR vv w.heap.size 41 7 z.1 (m + 1) z.2 (gv (acc ++ [Sg.mk 3 (numV ws (i + 1)) (numV ws (i + 1 + 1)) (numV ws (i + 1 + 1 + 1)) (numV ws (i + 1 + 1 + 1 + 1)) 0 0]))) (appS 22 22 (.slice y m yc) (litV 1 gb)) (fun w1 hw h => app_seg (show OwnR w1 w.heap.size 41 7 y m yc (gv acc) from h.1.1.1.1.1.1.1.2) hw.size h.2 (show m < 1000000 from by omega)) (fun w1 h => fun b hb => ⟨((show OwnR w1 w.heap.size 41 7 y m yc (gv acc) from h.1.1.1.1.1.1.1.2).lt b hb).1, ((show OwnR w1 w.heap.size 41 7 y m yc (gv acc) from h.1.1.1.1.1.1.1.2).blk b hb).2⟩) (fun z wa w1 e1 e2 h hG => ⟨(show OwnR wa w.heap.size 9 1 A n c (sv ws) from h.1.1.1.1.1.1.1.1).left e2 (seg_ne h.1.1.1.1.1.1.1.1 h.1.1.1.1.1.1.1.2), hG⟩) (by kernel_rfl) (by kernel_rfl) (fun z => ?_)
    refine Good.run (by kernel_rfl) (stop := 1000) 1000 _ ?_
    refine Good.next (⟨((i + 1 + 1 + 1 + 1 + 1, m + 1, acc ++ [Sg.mk 3 (numV ws (i + 1)) (numV ws (i + 1 + 1)) (numV ws (i + 1 + 1 + 1)) (numV ws (i + 1 + 1 + 1 + 1)) 0 0]), z), by show i + 1 + 1 + 1 + 1 + 1 ≤ n; omega, by show m + 1 ≤ i + 1 + 1 + 1 + 1 + 1; omega, by show (acc ++ _).length = m + 1; rw [List.length_append, hacc]; rfl, hR⟩) (by kernel_rfl) (by show n - (i + 1 + 1 + 1 + 1 + 1) < n - i; omega) ⟨by kernel_rfl, by kernel_rfl, by kernel_rfl⟩ (fun u h => h)
  ·
    refine Good.callv (fun w1 hw h => rverb_m hv) (by kernel_rfl) (fun u => ?_)
    refine Good.run (by kernel_rfl) (stop := 1000) 1000 _ ?_
    refine Good.cond false (by kernel_rfl) ?_
    refine Good.run (by kernel_rfl) (stop := 1000) 1000 _ ?_
    refine Good.slot 7 (.int .i64 (IntKind.i64.wrap ((i : Int) + 1))) (.int .i64 ((i + 1 : Nat) : Int)) (by kernel_rfl) (by rw [wrap_succ hlt (by omega)]) ?_
    refine Good.make (litS (33) 5 #[(0, .int .i64 1), (1, .int .i64 1), (2, .int .i64 2), (3, .int .i64 3), (4, .int .i64 0)]) (litV 5) (litG 3 #[.int .i64 1, .int .i64 1, .int .i64 2, .int .i64 3, .int .i64 0]) (by kernel_rfl) (fun w1 hw h => make_lit (by kernel_rfl)) (fun gm => ?_)
    refine Good.run (by kernel_rfl) (stop := 1000) 1000 _ ?_
    refine Good.ask (idxS 33 (.slice (some ⟨gm, 0, none⟩) 5 5) (3 : Nat)) (.pointer (some ⟨gm, 3 * 1, none⟩)) (by kernel_rfl) (fun w1 hw h => run_idxN (elem := 3) (by kernel_rfl) (by kernel_rfl) (by decide)) ?_
    refine Good.run (by kernel_rfl) (stop := 1000) 1000 _ ?_
    refine Good.ask (ldS 3 ⟨gm, 3 * 1, none⟩) (.int .i64 3) (by kernel_rfl) (fun w1 hw h => run_ldS (by kernel_rfl) (lit_cell h.2 rfl)) ?_
    refine Good.run (by kernel_rfl) (stop := 1000) 1000 _ ?_
    refine Good.un (by kernel_rfl) ?_
    refine Good.run (by kernel_rfl) (stop := 1000) 1000 _ ?_
    refine Good.cond true (by kernel_rfl) ?_
    refine Good.run (by kernel_rfl) (stop := 1000) 1000 _ ?_
    have hb00 : i + 1 ≤ n := by omega
    refine Good.callv (fun w1 hw h => rnumber_m (A := A) (n := n) (c := c) (x := ((i + 1 : Nat) : Int)) (i := i + 1) (h.1.1.1.strs) rfl (by omega) (by omega) hmem rfl rfl) (by kernel_rfl) (fun u00 => ?_)
    refine Good.run (by kernel_rfl) (stop := 1000) 1000 _ ?_
    by_cases e0a : numE ws (i + 1) = 0
    case neg =>
      have hf : failAt ws (2 * (namedI 4).toNat) (i + 1) = some (i + 1) := by
        show failAt ws 6 (i + 1) = _
        rw [failAt, if_neg e0a]
      rw [pw_fail hx hv (by decide) hf] at hR
      obtain ⟨rfl, rfl, rfl⟩ : [] = out ∧ i + 1 = at_ ∧ numE ws (i + 1) = e := by cases hR; exact ⟨rfl, rfl, rfl⟩
      have hle : i + 1 ≤ n := by omega
      refine Good.condr ((numE ws (i + 1) != 0)) true (by kernel_rfl) (by simpa using e0a) ?_
      refine Good.run (by kernel_rfl) (stop := 3) 1000 _ ?_
      refine Good.ask (minS 3 (i + 1 : Nat) (n : Nat)) (.int .i64 (min (i + 1) n : Nat)) (by kernel_rfl) (fun w1 hw h => run_minS) ?_
      refine Good.run (by kernel_rfl) (stop := 1000) 1000 _ ?_
      refine Good.leave (by kernel_rfl) ?_
      refine Good.run (by kernel_rfl) (stop := 1000) 1000 _ ?_
      refine Good.ret (v := .tuple #[.slice none 0 0, .int .i64 (min (i + 1) n : Nat), .int .i64 (numE ws (i + 1))]) (by kernel_rfl) (fun w1 hw h => ⟨(none, 0), by rw [Nat.min_eq_left hle]; rfl, hw, fun _ _ _ => ⟨rfl, fun k s hk => by simp at hk⟩⟩)
    have hlt00 : i + 1 < n := by
      rcases Nat.lt_or_ge (i + 1) n with h1 | h1
      · exact h1
      · rw [numE, List.getElem?_eq_none (by omega)] at e0a; exact absurd e0a (by decide)
    refine Good.condr ((numE ws (i + 1) != 0)) false (by kernel_rfl) (by simpa using e0a) ?_
    refine Good.run (by kernel_rfl) (stop := 1000) 1000 _ ?_
    refine Good.callv (fun w1 hw h => rnumber_m (A := A) (n := n) (c := c) (x := (IntKind.i64.wrap (((i + 1 : Nat) : Int) + 1))) (i := i + 1 + 1) (h.1.1.1.1.strs) (by rw [wrap_succ (n := n) (by omega) (by omega)]) (by omega) (by omega) hmem rfl rfl) (by kernel_rfl) (fun u01 => ?_)
    refine Good.run (by kernel_rfl) (stop := 1000) 1000 _ ?_
    by_cases e0b : numE ws (i + 1 + 1) = 0
    case neg =>
      have hf : failAt ws (2 * (namedI 4).toNat) (i + 1) = some (i + 1 + 1) := by
        show failAt ws 6 (i + 1) = _
        rw [failAt, if_pos e0a, failAt, if_neg e0b]
      rw [pw_fail hx hv (by decide) hf] at hR
      obtain ⟨rfl, rfl, rfl⟩ : [] = out ∧ i + 1 + 1 = at_ ∧ numE ws (i + 1 + 1) = e := by cases hR; exact ⟨rfl, rfl, rfl⟩
      have hle : i + 1 + 1 ≤ n := by omega
      refine Good.condr ((numE ws (i + 1 + 1) != 0)) true (by kernel_rfl) (by simpa using e0b) ?_
      refine Good.run (by kernel_rfl) (stop := 4) 1000 _ ?_
      refine Good.slot 73 (.int .i64 (IntKind.i64.wrap (((i + 1 : Nat) : Int) + 1))) (.int .i64 ((i + 1 + 1 : Nat) : Int)) (by kernel_rfl) (by rw [wrap_succ (n := n) (by omega) (by omega)]) ?_
      refine Good.ask (minS 3 (i + 1 + 1 : Nat) (n : Nat)) (.int .i64 (min (i + 1 + 1) n : Nat)) (by kernel_rfl) (fun w1 hw h => run_minS) ?_
      refine Good.run (by kernel_rfl) (stop := 1000) 1000 _ ?_
      refine Good.leave (by kernel_rfl) ?_
      refine Good.run (by kernel_rfl) (stop := 1000) 1000 _ ?_
      refine Good.ret (v := .tuple #[.slice none 0 0, .int .i64 (min (i + 1 + 1) n : Nat), .int .i64 (numE ws (i + 1 + 1))]) (by kernel_rfl) (fun w1 hw h => ⟨(none, 0), by rw [Nat.min_eq_left hle]; rfl, hw, fun _ _ _ => ⟨rfl, fun k s hk => by simp at hk⟩⟩)
    have hlt01 : i + 1 + 1 < n := by
      rcases Nat.lt_or_ge (i + 1 + 1) n with h1 | h1
      · exact h1
      · rw [numE, List.getElem?_eq_none (by omega)] at e0b; exact absurd e0b (by decide)
    refine Good.condr ((numE ws (i + 1 + 1) != 0)) false (by kernel_rfl) (by simpa using e0b) ?_
    refine Good.run (by kernel_rfl) (stop := 1000) 1000 _ ?_
    refine Good.slot 7 (.int .i64 (IntKind.i64.wrap (((i + 1 : Nat) : Int) + 2))) (.int .i64 ((i + 1 + 1 + 1 : Nat) : Int)) (by kernel_rfl) (by rw [wrap_two (n := n + 1) (by omega) (by omega)]) ?_
    refine Good.cond true (by kernel_rfl) ?_
    refine Good.run (by kernel_rfl) (stop := 1000) 1000 _ ?_
    refine Good.drop 15 (by kernel_rfl) (fun g1 => ?_)
    refine Good.cond true (by kernel_rfl) ?_
    refine Good.run (by kernel_rfl) (stop := 1000) 1000 _ ?_
    refine Good.callv (fun w1 hw h => rnumber_m (A := A) (n := n) (c := c) (x := ((i + 1 + 1 + 1 : Nat) : Int)) (i := i + 1 + 1 + 1) (h.1.1.1.1.1.strs) rfl (by omega) (by omega) hmem rfl rfl) (by kernel_rfl) (fun u10 => ?_)
    refine Good.run (by kernel_rfl) (stop := 1000) 1000 _ ?_
    by_cases e1a : numE ws (i + 1 + 1 + 1) = 0
    case neg =>
      have hf : failAt ws (2 * (namedI 4).toNat) (i + 1) = some (i + 1 + 1 + 1) := by
        show failAt ws 6 (i + 1) = _
        rw [failAt, if_pos e0a, failAt, if_pos e0b, failAt, if_neg e1a]
      rw [pw_fail hx hv (by decide) hf] at hR
      obtain ⟨rfl, rfl, rfl⟩ : [] = out ∧ i + 1 + 1 + 1 = at_ ∧ numE ws (i + 1 + 1 + 1) = e := by cases hR; exact ⟨rfl, rfl, rfl⟩
      have hle : i + 1 + 1 + 1 ≤ n := by omega
      refine Good.condr ((numE ws (i + 1 + 1 + 1) != 0)) true (by kernel_rfl) (by simpa using e1a) ?_
      refine Good.run (by kernel_rfl) (stop := 3) 1000 _ ?_
      refine Good.ask (minS 3 (i + 1 + 1 + 1 : Nat) (n : Nat)) (.int .i64 (min (i + 1 + 1 + 1) n : Nat)) (by kernel_rfl) (fun w1 hw h => run_minS) ?_
      refine Good.run (by kernel_rfl) (stop := 1000) 1000 _ ?_
      refine Good.leave (by kernel_rfl) ?_
      refine Good.run (by kernel_rfl) (stop := 1000) 1000 _ ?_
      refine Good.ret (v := .tuple #[.slice none 0 0, .int .i64 (min (i + 1 + 1 + 1) n : Nat), .int .i64 (numE ws (i + 1 + 1 + 1))]) (by kernel_rfl) (fun w1 hw h => ⟨(none, 0), by rw [Nat.min_eq_left hle]; rfl, hw, fun _ _ _ => ⟨rfl, fun k s hk => by simp at hk⟩⟩)
    have hlt10 : i + 1 + 1 + 1 < n := by
      rcases Nat.lt_or_ge (i + 1 + 1 + 1) n with h1 | h1
      · exact h1
      · rw [numE, List.getElem?_eq_none (by omega)] at e1a; exact absurd e1a (by decide)
    refine Good.condr ((numE ws (i + 1 + 1 + 1) != 0)) false (by kernel_rfl) (by simpa using e1a) ?_
    refine Good.run (by kernel_rfl) (stop := 1000) 1000 _ ?_
    refine Good.callv (fun w1 hw h => rnumber_m (A := A) (n := n) (c := c) (x := (IntKind.i64.wrap (((i + 1 + 1 + 1 : Nat) : Int) + 1))) (i := i + 1 + 1 + 1 + 1) (h.1.1.1.1.1.1.strs) (by rw [wrap_succ (n := n) (by omega) (by omega)]) (by omega) (by omega) hmem rfl rfl) (by kernel_rfl) (fun u11 => ?_)
    refine Good.run (by kernel_rfl) (stop := 1000) 1000 _ ?_
    by_cases e1b : numE ws (i + 1 + 1 + 1 + 1) = 0
    case neg =>
      have hf : failAt ws (2 * (namedI 4).toNat) (i + 1) = some (i + 1 + 1 + 1 + 1) := by
        show failAt ws 6 (i + 1) = _
        rw [failAt, if_pos e0a, failAt, if_pos e0b, failAt, if_pos e1a, failAt, if_neg e1b]
      rw [pw_fail hx hv (by decide) hf] at hR
      obtain ⟨rfl, rfl, rfl⟩ : [] = out ∧ i + 1 + 1 + 1 + 1 = at_ ∧ numE ws (i + 1 + 1 + 1 + 1) = e := by cases hR; exact ⟨rfl, rfl, rfl⟩
      have hle : i + 1 + 1 + 1 + 1 ≤ n := by omega
      refine Good.condr ((numE ws (i + 1 + 1 + 1 + 1) != 0)) true (by kernel_rfl) (by simpa using e1b) ?_
      refine Good.run (by kernel_rfl) (stop := 4) 1000 _ ?_
      refine Good.slot 73 (.int .i64 (IntKind.i64.wrap (((i + 1 + 1 + 1 : Nat) : Int) + 1))) (.int .i64 ((i + 1 + 1 + 1 + 1 : Nat) : Int)) (by kernel_rfl) (by rw [wrap_succ (n := n) (by omega) (by omega)]) ?_
      refine Good.ask (minS 3 (i + 1 + 1 + 1 + 1 : Nat) (n : Nat)) (.int .i64 (min (i + 1 + 1 + 1 + 1) n : Nat)) (by kernel_rfl) (fun w1 hw h => run_minS) ?_
      refine Good.run (by kernel_rfl) (stop := 1000) 1000 _ ?_
      refine Good.leave (by kernel_rfl) ?_
      refine Good.run (by kernel_rfl) (stop := 1000) 1000 _ ?_
      refine Good.ret (v := .tuple #[.slice none 0 0, .int .i64 (min (i + 1 + 1 + 1 + 1) n : Nat), .int .i64 (numE ws (i + 1 + 1 + 1 + 1))]) (by kernel_rfl) (fun w1 hw h => ⟨(none, 0), by rw [Nat.min_eq_left hle]; rfl, hw, fun _ _ _ => ⟨rfl, fun k s hk => by simp at hk⟩⟩)
    have hlt11 : i + 1 + 1 + 1 + 1 < n := by
      rcases Nat.lt_or_ge (i + 1 + 1 + 1 + 1) n with h1 | h1
      · exact h1
      · rw [numE, List.getElem?_eq_none (by omega)] at e1b; exact absurd e1b (by decide)
    refine Good.condr ((numE ws (i + 1 + 1 + 1 + 1) != 0)) false (by kernel_rfl) (by simpa using e1b) ?_
    refine Good.run (by kernel_rfl) (stop := 1000) 1000 _ ?_
    refine Good.slot 7 (.int .i64 (IntKind.i64.wrap (((i + 1 + 1 + 1 : Nat) : Int) + 2))) (.int .i64 ((i + 1 + 1 + 1 + 1 + 1 : Nat) : Int)) (by kernel_rfl) (by rw [wrap_two (n := n + 1) (by omega) (by omega)]) ?_
    refine Good.cond false (by kernel_rfl) ?_
    refine Good.run (by kernel_rfl) (stop := 1000) 1000 _ ?_
    refine Good.cond true (by kernel_rfl) ?_
    refine Good.run (by kernel_rfl) (stop := 1000) 1000 _ ?_
    refine Good.drop 15 (by kernel_rfl) (fun g2 => ?_)
    refine Good.cond true (by kernel_rfl) ?_
    refine Good.run (by kernel_rfl) (stop := 1000) 1000 _ ?_
    refine Good.callv (fun w1 hw h => rnumber_m (A := A) (n := n) (c := c) (x := ((i + 1 + 1 + 1 + 1 + 1 : Nat) : Int)) (i := i + 1 + 1 + 1 + 1 + 1) (h.1.1.1.1.1.1.1.strs) rfl (by omega) (by omega) hmem rfl rfl) (by kernel_rfl) (fun u20 => ?_)
    refine Good.run (by kernel_rfl) (stop := 1000) 1000 _ ?_
    by_cases e2a : numE ws (i + 1 + 1 + 1 + 1 + 1) = 0
    case neg =>
      have hf : failAt ws (2 * (namedI 4).toNat) (i + 1) = some (i + 1 + 1 + 1 + 1 + 1) := by
        show failAt ws 6 (i + 1) = _
        rw [failAt, if_pos e0a, failAt, if_pos e0b, failAt, if_pos e1a, failAt, if_pos e1b, failAt, if_neg e2a]
      rw [pw_fail hx hv (by decide) hf] at hR
      obtain ⟨rfl, rfl, rfl⟩ : [] = out ∧ i + 1 + 1 + 1 + 1 + 1 = at_ ∧ numE ws (i + 1 + 1 + 1 + 1 + 1) = e := by cases hR; exact ⟨rfl, rfl, rfl⟩
      have hle : i + 1 + 1 + 1 + 1 + 1 ≤ n := by omega
      refine Good.condr ((numE ws (i + 1 + 1 + 1 + 1 + 1) != 0)) true (by kernel_rfl) (by simpa using e2a) ?_
      refine Good.run (by kernel_rfl) (stop := 3) 1000 _ ?_
      refine Good.ask (minS 3 (i + 1 + 1 + 1 + 1 + 1 : Nat) (n : Nat)) (.int .i64 (min (i + 1 + 1 + 1 + 1 + 1) n : Nat)) (by kernel_rfl) (fun w1 hw h => run_minS) ?_
      refine Good.run (by kernel_rfl) (stop := 1000) 1000 _ ?_
      refine Good.leave (by kernel_rfl) ?_
      refine Good.run (by kernel_rfl) (stop := 1000) 1000 _ ?_
      refine Good.ret (v := .tuple #[.slice none 0 0, .int .i64 (min (i + 1 + 1 + 1 + 1 + 1) n : Nat), .int .i64 (numE ws (i + 1 + 1 + 1 + 1 + 1))]) (by kernel_rfl) (fun w1 hw h => ⟨(none, 0), by rw [Nat.min_eq_left hle]; rfl, hw, fun _ _ _ => ⟨rfl, fun k s hk => by simp at hk⟩⟩)
    have hlt20 : i + 1 + 1 + 1 + 1 + 1 < n := by
      rcases Nat.lt_or_ge (i + 1 + 1 + 1 + 1 + 1) n with h1 | h1
      · exact h1
      · rw [numE, List.getElem?_eq_none (by omega)] at e2a; exact absurd e2a (by decide)
    refine Good.condr ((numE ws (i + 1 + 1 + 1 + 1 + 1) != 0)) false (by kernel_rfl) (by simpa using e2a) ?_
    refine Good.run (by kernel_rfl) (stop := 1000) 1000 _ ?_
    refine Good.callv (fun w1 hw h => rnumber_m (A := A) (n := n) (c := c) (x := (IntKind.i64.wrap (((i + 1 + 1 + 1 + 1 + 1 : Nat) : Int) + 1))) (i := i + 1 + 1 + 1 + 1 + 1 + 1) (h.1.1.1.1.1.1.1.1.strs) (by rw [wrap_succ (n := n) (by omega) (by omega)]) (by omega) (by omega) hmem rfl rfl) (by kernel_rfl) (fun u21 => ?_)
    refine Good.run (by kernel_rfl) (stop := 1000) 1000 _ ?_
    by_cases e2b : numE ws (i + 1 + 1 + 1 + 1 + 1 + 1) = 0
    case neg =>
      have hf : failAt ws (2 * (namedI 4).toNat) (i + 1) = some (i + 1 + 1 + 1 + 1 + 1 + 1) := by
        show failAt ws 6 (i + 1) = _
        rw [failAt, if_pos e0a, failAt, if_pos e0b, failAt, if_pos e1a, failAt, if_pos e1b, failAt, if_pos e2a, failAt, if_neg e2b]
      rw [pw_fail hx hv (by decide) hf] at hR
      obtain ⟨rfl, rfl, rfl⟩ : [] = out ∧ i + 1 + 1 + 1 + 1 + 1 + 1 = at_ ∧ numE ws (i + 1 + 1 + 1 + 1 + 1 + 1) = e := by cases hR; exact ⟨rfl, rfl, rfl⟩
      have hle : i + 1 + 1 + 1 + 1 + 1 + 1 ≤ n := by omega
      refine Good.condr ((numE ws (i + 1 + 1 + 1 + 1 + 1 + 1) != 0)) true (by kernel_rfl) (by simpa using e2b) ?_
      refine Good.run (by kernel_rfl) (stop := 4) 1000 _ ?_
      refine Good.slot 73 (.int .i64 (IntKind.i64.wrap (((i + 1 + 1 + 1 + 1 + 1 : Nat) : Int) + 1))) (.int .i64 ((i + 1 + 1 + 1 + 1 + 1 + 1 : Nat) : Int)) (by kernel_rfl) (by rw [wrap_succ (n := n) (by omega) (by omega)]) ?_
      refine Good.ask (minS 3 (i + 1 + 1 + 1 + 1 + 1 + 1 : Nat) (n : Nat)) (.int .i64 (min (i + 1 + 1 + 1 + 1 + 1 + 1) n : Nat)) (by kernel_rfl) (fun w1 hw h => run_minS) ?_
      refine Good.run (by kernel_rfl) (stop := 1000) 1000 _ ?_
      refine Good.leave (by kernel_rfl) ?_
      refine Good.run (by kernel_rfl) (stop := 1000) 1000 _ ?_
      refine Good.ret (v := .tuple #[.slice none 0 0, .int .i64 (min (i + 1 + 1 + 1 + 1 + 1 + 1) n : Nat), .int .i64 (numE ws (i + 1 + 1 + 1 + 1 + 1 + 1))]) (by kernel_rfl) (fun w1 hw h => ⟨(none, 0), by rw [Nat.min_eq_left hle]; rfl, hw, fun _ _ _ => ⟨rfl, fun k s hk => by simp at hk⟩⟩)
    have hlt21 : i + 1 + 1 + 1 + 1 + 1 + 1 < n := by
      rcases Nat.lt_or_ge (i + 1 + 1 + 1 + 1 + 1 + 1) n with h1 | h1
      · exact h1
      · rw [numE, List.getElem?_eq_none (by omega)] at e2b; exact absurd e2b (by decide)
    refine Good.condr ((numE ws (i + 1 + 1 + 1 + 1 + 1 + 1) != 0)) false (by kernel_rfl) (by simpa using e2b) ?_
    refine Good.run (by kernel_rfl) (stop := 1000) 1000 _ ?_
    refine Good.slot 7 (.int .i64 (IntKind.i64.wrap (((i + 1 + 1 + 1 + 1 + 1 : Nat) : Int) + 2))) (.int .i64 ((i + 1 + 1 + 1 + 1 + 1 + 1 + 1 : Nat) : Int)) (by kernel_rfl) (by rw [wrap_two (n := n + 1) (by omega) (by omega)]) ?_
    refine Good.cond false (by kernel_rfl) ?_
    refine Good.run (by kernel_rfl) (stop := 1000) 1000 _ ?_
    refine Good.cond false (by kernel_rfl) ?_
    refine Good.run (by kernel_rfl) (stop := 1000) 1000 _ ?_
    refine Good.cond false (by kernel_rfl) ?_
    refine Good.run (by kernel_rfl) (stop := 1000) 1000 _ ?_
    have hf : failAt ws (2 * (namedI 4).toNat) (i + 1) = none := by
      show failAt ws 6 (i + 1) = _
      rw [failAt, if_pos e0a, failAt, if_pos e0b, failAt, if_pos e1a, failAt, if_pos e1b, failAt, if_pos e2a, failAt, if_pos e2b, failAt]
    rw [pw_step hx hv (by decide) hf] at hR
    refine Good.make (litS 22 1 #[(0, Sg.val ⟨4, numV ws (i + 1), numV ws (i + 1 + 1), numV ws (i + 1 + 1 + 1), numV ws (i + 1 + 1 + 1 + 1), numV ws (i + 1 + 1 + 1 + 1 + 1), numV ws (i + 1 + 1 + 1 + 1 + 1 + 1)⟩)]) (litV 1) (litG 41 (Sg.cl ⟨4, numV ws (i + 1), numV ws (i + 1 + 1), numV ws (i + 1 + 1 + 1), numV ws (i + 1 + 1 + 1 + 1), numV ws (i + 1 + 1 + 1 + 1 + 1), numV ws (i + 1 + 1 + 1 + 1 + 1 + 1)⟩).toArray) (by kernel_rfl) (fun w1 hw h => make_lit (by kernel_rfl)) (fun gb => ?_)
    refine Good.run (by kernel_rfl) (stop := 3) 1000 _ ?_
    refine Good.mutOp (L := bl y) (val := fun (z : Option Addr × Nat) => .slice z.1 (m + 1) z.2) (Φ' := fun (z : Option Addr × Nat) vv => OwnR vv w.heap.size 9 1 A n c (sv ws) ∧ OwnR vv w.heap.size 41 7 z.1 (m + 1) z.2 (gv (acc ++ [Sg.mk 4 (numV ws (i + 1)) (numV ws (i + 1 + 1)) (numV ws (i + 1 + 1 + 1)) (numV ws (i + 1 + 1 + 1 + 1)) (numV ws (i + 1 + 1 + 1 + 1 + 1)) (numV ws (i + 1 + 1 + 1 + 1 + 1 + 1))]))) (G := fun (z : Option Addr × Nat) vv => OwnR vv w.heap.size 41 7 z.1 (m + 1) z.2 (gv (acc ++ [Sg.mk 4 (numV ws (i + 1)) (numV ws (i + 1 + 1)) (numV ws (i + 1 + 1 + 1)) (numV ws (i + 1 + 1 + 1 + 1)) (numV ws (i + 1 + 1 + 1 + 1 + 1)) (numV ws (i + 1 + 1 + 1 + 1 + 1 + 1))]))) (appS 22 22 (.slice y m yc) (litV 1 gb)) (fun w1 hw h => app_seg (show OwnR w1 w.heap.size 41 7 y m yc (gv acc) from h.1.1.1.1.1.1.1.1.1.2) hw.size h.2 (show m < 1000000 from by omega)) (fun w1 h => fun b hb => ⟨((show OwnR w1 w.heap.size 41 7 y m yc (gv acc) from h.1.1.1.1.1.1.1.1.1.2).lt b hb).1, ((show OwnR w1 w.heap.size 41 7 y m yc (gv acc) from h.1.1.1.1.1.1.1.1.1.2).blk b hb).2⟩) (fun z wa w1 e1 e2 h hG => ⟨(show OwnR wa w.heap.size 9 1 A n c (sv ws) from h.1.1.1.1.1.1.1.1.1.1).left e2 (seg_ne h.1.1.1.1.1.1.1.1.1.1 h.1.1.1.1.1.1.1.1.1.2), hG⟩) (by kernel_rfl) (by kernel_rfl) (fun z => ?_)
    refine Good.run (by kernel_rfl) (stop := 1000) 1000 _ ?_
    refine Good.next (⟨((i + 1 + 1 + 1 + 1 + 1 + 1 + 1, m + 1, acc ++ [Sg.mk 4 (numV ws (i + 1)) (numV ws (i + 1 + 1)) (numV ws (i + 1 + 1 + 1)) (numV ws (i + 1 + 1 + 1 + 1)) (numV ws (i + 1 + 1 + 1 + 1 + 1)) (numV ws (i + 1 + 1 + 1 + 1 + 1 + 1))]), z), by show i + 1 + 1 + 1 + 1 + 1 + 1 + 1 ≤ n; omega, by show m + 1 ≤ i + 1 + 1 + 1 + 1 + 1 + 1 + 1; omega, by show (acc ++ _).length = m + 1; rw [List.length_append, hacc]; rfl, hR⟩) (by kernel_rfl) (by show n - (i + 1 + 1 + 1 + 1 + 1 + 1 + 1) < n - i; omega) ⟨by kernel_rfl, by kernel_rfl, by kernel_rfl⟩ (fun u h => h)
  ·
    refine Good.callv (fun w1 hw h => rverb_m hv) (by kernel_rfl) (fun u => ?_)
    refine Good.run (by kernel_rfl) (stop := 1000) 1000 _ ?_
    refine Good.cond false (by kernel_rfl) ?_
    refine Good.run (by kernel_rfl) (stop := 1000) 1000 _ ?_
    refine Good.slot 7 (.int .i64 (IntKind.i64.wrap ((i : Int) + 1))) (.int .i64 ((i + 1 : Nat) : Int)) (by kernel_rfl) (by rw [wrap_succ hlt (by omega)]) ?_
    refine Good.make (litS (33) 5 #[(0, .int .i64 1), (1, .int .i64 1), (2, .int .i64 2), (3, .int .i64 3), (4, .int .i64 0)]) (litV 5) (litG 3 #[.int .i64 1, .int .i64 1, .int .i64 2, .int .i64 3, .int .i64 0]) (by kernel_rfl) (fun w1 hw h => make_lit (by kernel_rfl)) (fun gm => ?_)
    refine Good.run (by kernel_rfl) (stop := 1000) 1000 _ ?_
    refine Good.ask (idxS 33 (.slice (some ⟨gm, 0, none⟩) 5 5) (4 : Nat)) (.pointer (some ⟨gm, 4 * 1, none⟩)) (by kernel_rfl) (fun w1 hw h => run_idxN (elem := 3) (by kernel_rfl) (by kernel_rfl) (by decide)) ?_
    refine Good.run (by kernel_rfl) (stop := 1000) 1000 _ ?_
    refine Good.ask (ldS 3 ⟨gm, 4 * 1, none⟩) (.int .i64 0) (by kernel_rfl) (fun w1 hw h => run_ldS (by kernel_rfl) (lit_cell h.2 rfl)) ?_
    refine Good.run (by kernel_rfl) (stop := 1000) 1000 _ ?_
    refine Good.un (by kernel_rfl) ?_
    refine Good.run (by kernel_rfl) (stop := 1000) 1000 _ ?_
    refine Good.cond false (by kernel_rfl) ?_
    refine Good.run (by kernel_rfl) (stop := 1000) 1000 _ ?_
    have hf : failAt ws (2 * (namedI 5).toNat) (i + 1) = none := by
      show failAt ws 0 (i + 1) = _
      rw [failAt]
    rw [pw_step hx hv (by decide) hf] at hR
    refine Good.make (litS 22 1 #[(0, Sg.val ⟨5, 0, 0, 0, 0, 0, 0⟩)]) (litV 1) (litG 41 (Sg.cl ⟨5, 0, 0, 0, 0, 0, 0⟩).toArray) (by kernel_rfl) (fun w1 hw h => make_lit (by kernel_rfl)) (fun gb => ?_)
    refine Good.run (by kernel_rfl) (stop := 3) 1000 _ ?_
    refine Good.mutOp (L := bl y) (val := fun (z : Option Addr × Nat) => .slice z.1 (m + 1) z.2) (Φ' := fun (z : Option Addr × Nat) vv => OwnR vv w.heap.size 9 1 A n c (sv ws) ∧ OwnR vv w.heap.size 41 7 z.1 (m + 1) z.2 (gv (acc ++ [Sg.mk 5 0 0 0 0 0 0]))) (G := fun (z : Option Addr × Nat) vv => OwnR vv w.heap.size 41 7 z.1 (m + 1) z.2 (gv (acc ++ [Sg.mk 5 0 0 0 0 0 0]))) (appS 22 22 (.slice y m yc) (litV 1 gb)) (fun w1 hw h => app_seg (show OwnR w1 w.heap.size 41 7 y m yc (gv acc) from h.1.1.1.2) hw.size h.2 (show m < 1000000 from by omega)) (fun w1 h => fun b hb => ⟨((show OwnR w1 w.heap.size 41 7 y m yc (gv acc) from h.1.1.1.2).lt b hb).1, ((show OwnR w1 w.heap.size 41 7 y m yc (gv acc) from h.1.1.1.2).blk b hb).2⟩) (fun z wa w1 e1 e2 h hG => ⟨(show OwnR wa w.heap.size 9 1 A n c (sv ws) from h.1.1.1.1).left e2 (seg_ne h.1.1.1.1 h.1.1.1.2), hG⟩) (by kernel_rfl) (by kernel_rfl) (fun z => ?_)
    refine Good.run (by kernel_rfl) (stop := 1000) 1000 _ ?_
    refine Good.next (⟨((i + 1, m + 1, acc ++ [Sg.mk 5 0 0 0 0 0 0]), z), by show i + 1 ≤ n; omega, by show m + 1 ≤ i + 1; omega, by show (acc ++ _).length = m + 1; rw [List.length_append, hacc]; rfl, hR⟩) (by kernel_rfl) (by show n - (i + 1) < n - i; omega) ⟨by kernel_rfl, by kernel_rfl, by kernel_rfl⟩ (fun u h => h)
  · rw [pw_verb hx hv] at hR
    obtain ⟨rfl, rfl, rfl⟩ : [] = out ∧ i = at_ ∧ 3 = e := by cases hR; exact ⟨rfl, rfl, rfl⟩
    refine Good.callv (fun w1 hw h => rverb_m hv) (by kernel_rfl) (fun u => ?_)
    refine Good.run (by kernel_rfl) (stop := 1000) 1000 _ ?_
    refine Good.cond true (by kernel_rfl) ?_
    refine Good.run (by kernel_rfl) (stop := 1000) 1000 _ ?_
    refine Good.leave (by kernel_rfl) ?_
    refine Good.run (by kernel_rfl) (stop := 1000) 1000 _ ?_
    refine Good.ret (v := .tuple #[.slice none 0 0, .int .i64 i, .int .i64 3]) (by kernel_rfl) (fun w1 hw h => ⟨(none, 0), rfl, hw, fun _ _ _ => ⟨rfl, fun k s hk => by simp at hk⟩⟩)
end

theorem BoxAt.stay {w u : World} {B g : Nat} {cs : List Value} (h : BoxAt w g cs) (hg : B ≤ g) (hs : ∀ b, B ≤ b → b < w.heap.size → u.heap[b]? = w.heap[b]?) : BoxAt u g cs := by
  obtain ⟨t, h⟩ := h
  exact ⟨t, (hs g hg (Array.getElem?_eq_some_iff.1 h).1).trans h⟩
theorem BoxAt.one {w : World} {g : Nat} {v : Value} (h : BoxAt w g [v]) : w.cell? ⟨g, 0, none⟩ = some v := by
  obtain ⟨t, h⟩ := h
  exact cell_one h
theorem BoxAt.lt {w : World} {g : Nat} {cs : List Value} (h : BoxAt w g cs) : g < w.heap.size := by
  obtain ⟨t, h⟩ := h
  exact (Array.getElem?_eq_some_iff.1 h).1
theorem BoxAt.own {w : World} {g : Nat} {cs : List Value} (h : BoxAt w g cs) : ∃ xs ty own, w.heap[g]? = some (.cells xs ty own) := by
  obtain ⟨t, h⟩ := h
  exact ⟨_, _, _, h⟩
theorem BoxAt.to {w u : World} {g : Nat} {cs : List Value} (h : BoxAt w g cs) (e : u.heap[g]? = w.heap[g]?) : BoxAt u g cs := by
  obtain ⟨t, h⟩ := h
  exact ⟨t, e.trans h⟩
theorem BoxAt.cell {w : World} {g j : Nat} {cs : List Value} (h : BoxAt w g cs) : w.cell? ⟨g, j, none⟩ = cs[j]? := by
  obtain ⟨t, h⟩ := h
  simp only [World.cell?, h, Option.isSome_none, Bool.false_eq_true, if_false]
  simp
theorem cell_to {w u : World} {p : Addr} {v : Value} (h : w.cell? p = some v) (e : u.heap[p.block]? = w.heap[p.block]?) : u.cell? p = some v := by
  unfold World.cell? at h ⊢
  rw [e]; exact h
theorem list_set_seg {α : Type} : ∀ (l : List α) (j : Nat) (v : α), j < l.length → l.take j ++ [v] ++ l.drop (j + 1) = l.set j v
  | [], j, v, h => absurd h (Nat.not_lt_zero _)
  | a :: l, 0, v, _ => by simp
  | a :: l, j + 1, v, h => by
    have ih := list_set_seg l j v (by simpa using h)
    simp only [List.take_succ_cons, List.drop_succ_cons, List.set_cons_succ, List.cons_append] at ih ⊢
    rw [ih]
/-- One cell of a box stored. -/
theorem BoxAt.store1 {P : Program} {t : TypeId} {w : World} {g j : Nat} {cs : List Value} {v : Value} (h : BoxAt w g cs) (hn : sizeT P t = some 1) (hl : v.cells.toList = [v]) (hj : j < cs.length) (h1 : v.oneCell' = true) :
    ∃ w', (stS t ⟨g, j, none⟩ v).run P w = .ok .skip w' ∧ Chg [g] w w' ∧ ∀ w'', w'.heap.size ≤ w''.heap.size → (∀ b ∈ [g], w''.heap[b]? = w'.heap[b]?) → BoxAt w'' g (cs.set j v) := by
  obtain ⟨ty, h⟩ := h
  have hst := run_storeCells_at P g j ty v.cells.toList 0 cs.toArray w h (by rw [hl]; simp; omega) (by intro u hu; rw [hl] at hu; rw [List.mem_singleton.1 hu]; exact h1)
  have hsz : v.cells.size = 1 := by have := congrArg List.length hl; simpa using this
  have hnew : ((cs.toArray.toList.take (j + 0) ++ v.cells.toList ++ cs.toArray.toList.drop (j + 0 + v.cells.toList.length)).toArray) = (cs.set j v).toArray := by
    rw [hl]
    have := list_set_seg cs j v hj
    simp only [List.length_cons, List.length_nil, Nat.add_zero, Nat.zero_add]
    rw [← this]
  rw [hnew] at hst
  refine ⟨w.setRow g (cs.set j v).toArray, ?_, ⟨rfl, rfl, rfl, by rw [setRow_size]; exact Nat.le_refl _, fun k _ hk => setRow_other _ _ _ _ (by simpa using hk)⟩, fun w'' k1 k2 => ⟨ty, ?_⟩⟩
  · simp only [stS, Instr.storeAt, Instr.sureAddr, storeVar, Sem.run_bind, Sem.run_pure, Result.andThen_ok, run_sizeT hn]
    rw [if_neg (by simpa using hsz)]
    simp only [hst, Sem.run_pure, Sem.run_bind, Result.andThen_ok]
  · rw [k2 g (by simp)]
    simp only [World.setRow, Array.getElem?_modify, if_true, h, Option.map_some]
theorem StrAt.left {w wa : World} {A : Option Addr} {n : Nat} {ws : List (List UInt8)} {L : List Nat} (h : StrAt wa A n ws) (e2 : ∀ b, b ∉ L → wa.heap[b]? = w.heap[b]?) (hd : ∀ b ∈ bl A, b ∉ L) : StrAt w A n ws :=
  ⟨h.1, fun k s hk => by
    obtain ⟨ad, h1, h2⟩ := h.2 k s hk
    exact ⟨ad, h1, cell_to h2 (e2 _ (hd _ (by rw [h1, show (ad.add k).block = ad.block from by unfold Addr.add; split <;> rfl]; simp [bl]))).symm⟩⟩
section
variable {w W : World} {l : List UInt8} {A : Option Addr} {n c : Nat} {ws : List (List UInt8)}
theorem index_m {b : UInt8} {k : Int} (h : Lib.indexByte [32, 77, 76, 81, 67, 90] b = k) : Calls Tryd.prog 41 #[.string ⟨#[32, 77, 76, 81, 67, 90]⟩, strOf [b]] w (CallPost w (fun _ : Unit => .int .i64 k) fun _ _ => True) :=
  (Tryd.strings_Index_one ⟨#[32, 77, 76, 81, 67, 90]⟩ b w).mono fun e w' he => by
    obtain ⟨h1, rfl⟩ := he
    exact ⟨(), by rw [h1]; exact congrArg (fun z => Ending.returned (Value.int .i64 z)) h, Below.refl _ _, fun _ _ _ => trivial⟩
set_option maxRecDepth 100000 in
set_option maxHeartbeats 2000000 in
theorem verb_m {v : Int} (hv : verbI l = v) : Calls Tryd.prog 25 #[strOf l] w (CallPost w (fun _ : Unit => .int .i64 v) fun _ _ => True) := by
  by_cases h1 : l.length = 1
  case neg =>
    obtain rfl : v = 0 := by
      rcases verb_cases l with ⟨rfl, _⟩ | ⟨rfl, _⟩ | ⟨rfl, _⟩ | ⟨rfl, _⟩ | ⟨rfl, _⟩ | ⟨_, h⟩
      · exact absurd rfl h1
      · exact absurd rfl h1
      · exact absurd rfl h1
      · exact absurd rfl h1
      · exact absurd rfl h1
      · exact hv.symm.trans h
    refine Good.enter Tryd.func25 rfl ?_
    refine Good.run (by kernel_rfl) (stop := 3) 1000 _ ?_
    refine Good.slot 5 (.bool ((l.length : Int) != 1)) (.bool true) (by kernel_rfl) (by simp; omega) ?_
    refine Good.run (by kernel_rfl) (stop := 1000) 1000 _ ?_
    refine Good.cond true (by kernel_rfl) ?_
    refine Good.run (by kernel_rfl) (stop := 1000) 1000 _ ?_
    refine Good.ret (v := .int .i64 0) (by kernel_rfl) (fun w1 hw h => ⟨(), rfl, hw, fun _ _ _ => trivial⟩)
  obtain ⟨b, rfl⟩ : ∃ b, l = [b] := by
    match l, h1 with
    | [b], _ => exact ⟨b, rfl⟩
  refine Good.enter Tryd.func25 rfl ?_
  refine Good.run (by kernel_rfl) (stop := 5) 1000 _ ?_
  by_cases hb : b = 32
  · subst hb
    obtain rfl : v = 0 := hv.symm.trans (by decide)
    refine Good.ask (opS .eql 9 (.tmp 7) (.const (.string ⟨#[32]⟩)) (strOf [32]) (strOf [32])) (.bool true) (by kernel_rfl) (fun w1 hw h => run_eqS (by simp)) ?_
    refine Good.run (by kernel_rfl) (stop := 1000) 1000 _ ?_
    refine Good.cond true (by kernel_rfl) ?_
    refine Good.run (by kernel_rfl) (stop := 1000) 1000 _ ?_
    refine Good.ret (v := .int .i64 0) (by kernel_rfl) (fun w1 hw h => ⟨(), rfl, hw, fun _ _ _ => trivial⟩)
  refine Good.ask (opS .eql 9 (.tmp 7) (.const (.string ⟨#[32]⟩)) (strOf [b]) (strOf [32])) (.bool false) (by kernel_rfl) (fun w1 hw h => run_eqS (by simpa using hb)) ?_
  refine Good.run (by kernel_rfl) (stop := 1000) 1000 _ ?_
  refine Good.cond false (by kernel_rfl) ?_
  refine Good.run (by kernel_rfl) (stop := 1000) 1000 _ ?_
  rcases verb_cases [b] with ⟨h, h2⟩ | ⟨h, h2⟩ | ⟨h, h2⟩ | ⟨h, h2⟩ | ⟨h, h2⟩ | ⟨h, h2⟩
  · obtain rfl : b = 77 := by simpa using h
    obtain rfl : v = 1 := hv.symm.trans h2
    refine Good.callv (fun w1 hw h => index_m (b := 77) (k := 1) (by decide)) (by kernel_rfl) (fun u => ?_)
    refine Good.run (by kernel_rfl) (stop := 1000) 1000 _ ?_
    refine Good.ret (v := .int .i64 1) (by kernel_rfl) (fun w1 hw h => ⟨(), rfl, hw, fun _ _ _ => trivial⟩)
  · obtain rfl : b = 76 := by simpa using h
    obtain rfl : v = 2 := hv.symm.trans h2
    refine Good.callv (fun w1 hw h => index_m (b := 76) (k := 2) (by decide)) (by kernel_rfl) (fun u => ?_)
    refine Good.run (by kernel_rfl) (stop := 1000) 1000 _ ?_
    refine Good.ret (v := .int .i64 2) (by kernel_rfl) (fun w1 hw h => ⟨(), rfl, hw, fun _ _ _ => trivial⟩)
  · obtain rfl : b = 81 := by simpa using h
    obtain rfl : v = 3 := hv.symm.trans h2
    refine Good.callv (fun w1 hw h => index_m (b := 81) (k := 3) (by decide)) (by kernel_rfl) (fun u => ?_)
    refine Good.run (by kernel_rfl) (stop := 1000) 1000 _ ?_
    refine Good.ret (v := .int .i64 3) (by kernel_rfl) (fun w1 hw h => ⟨(), rfl, hw, fun _ _ _ => trivial⟩)
  · obtain rfl : b = 67 := by simpa using h
    obtain rfl : v = 4 := hv.symm.trans h2
    refine Good.callv (fun w1 hw h => index_m (b := 67) (k := 4) (by decide)) (by kernel_rfl) (fun u => ?_)
    refine Good.run (by kernel_rfl) (stop := 1000) 1000 _ ?_
    refine Good.ret (v := .int .i64 4) (by kernel_rfl) (fun w1 hw h => ⟨(), rfl, hw, fun _ _ _ => trivial⟩)
  · obtain rfl : b = 90 := by simpa using h
    obtain rfl : v = 5 := hv.symm.trans h2
    refine Good.callv (fun w1 hw h => index_m (b := 90) (k := 5) (by decide)) (by kernel_rfl) (fun u => ?_)
    refine Good.run (by kernel_rfl) (stop := 1000) 1000 _ ?_
    refine Good.ret (v := .int .i64 5) (by kernel_rfl) (fun w1 hw h => ⟨(), rfl, hw, fun _ _ _ => trivial⟩)
  · obtain rfl : v = 0 := hv.symm.trans h2
    have hidx : Lib.indexByte [32, 77, 76, 81, 67, 90] b = -1 := by
      simp only [ne_eq, List.cons.injEq, and_true] at h
      have e : ∀ c : UInt8, b ≠ c → (c == b) = false := fun c hc => beq_eq_false_iff_ne.2 (Ne.symm hc)
      have e2 : ∀ c : UInt8, b ≠ c → (b == c) = false := fun c hc => beq_eq_false_iff_ne.2 hc
      simp [Lib.indexByte, List.findIdx?_cons, e 32 hb, e 77 h.1, e 76 h.2.1, e 81 h.2.2.1, e 67 h.2.2.2.1, e 90 h.2.2.2.2, e2 32 hb, e2 77 h.1, e2 76 h.2.1, e2 81 h.2.2.1, e2 67 h.2.2.2.1, e2 90 h.2.2.2.2]
    refine Good.callv (fun w1 hw h => index_m (b := b) hidx) (by kernel_rfl) (fun u => ?_)
    refine Good.run (by kernel_rfl) (stop := 1000) 1000 _ ?_
    refine Good.ret (v := .int .i64 0) (by kernel_rfl) (fun w1 hw h => ⟨(), rfl, hw, fun _ _ _ => trivial⟩)
/-- What is as before but for one box. -/
def But1 (W w : World) (g : Nat) (v : Value) (u : World) : Prop := w.heap.size ≤ u.heap.size ∧ (∀ b, W.heap.size ≤ b → b < w.heap.size → b ≠ g → u.heap[b]? = w.heap[b]?) ∧ BoxAt u g [v]
theorem mut_one {gA gE gX : Nat} {val : Value} {ia ie : Value} {v va ve : Value} {w1 : World} (hW : Below W.heap.size W w) (hw : Below W.heap.size W w1) (h : But1 W w gX v w1) (hX : gX = gA ∨ gX = gE) (hne : gA ≠ gE) (la : W.heap.size ≤ gA) (le : W.heap.size ≤ gE)
    (ha : BoxAt w gA [ia]) (he : BoxAt w gE [ie]) (hva : va = if gX = gA then v else ia) (hve : ve = if gX = gE then v else ie) :
    MutPost w [gA, gE] (fun _ : Unit => val) (fun _ u => BoxAt u gA [va] ∧ BoxAt u gE [ve]) (.returned val) w1 := by
  obtain ⟨h1, h2, h3⟩ := h
  refine ⟨(), rfl, ⟨hw.os.trans hW.os.symm, hw.tape.trans hW.tape.symm, hw.output.trans hW.output.symm, h1, fun k hk hkl => ?_⟩, fun w'' k1 k2 => ⟨?_, ?_⟩⟩
  · rcases Nat.lt_or_ge k W.heap.size with h4 | h4
    · rw [hw.block k h4, hW.block k h4]
    · refine h2 k h4 hk fun e => hkl ?_
      rcases hX with rfl | rfl <;> simp [e]
  · have e := k2 gA (.inl (by simp))
    subst hva
    split
    · rename_i e1; subst e1; exact h3.to e
    · rename_i e1; exact (ha.to (h2 gA la ha.lt (Ne.symm e1))).to e
  · have e := k2 gE (.inl (by simp))
    subst hve
    split
    · rename_i e1; subst e1; exact h3.to e
    · rename_i e1; exact (he.to (h2 gE le he.lt (Ne.symm e1))).to e
set_option maxRecDepth 100000 in
set_option maxHeartbeats 2000000 in
theorem next_m {gA gW gE i : Nat} (hW : Below W.heap.size W w) (ha : BoxAt w gA [.int .i64 i]) (hb : BoxAt w gW [.slice A n c]) (he : BoxAt w gE [.int .i64 0]) (la : W.heap.size ≤ gA) (lw : W.heap.size ≤ gW) (le : W.heap.size ≤ gE) (hne : gA ≠ gE)
    (hs : StrAt w A n ws) (hi : i ≤ n) (hn : n ≤ 1000000) (hlen : ∀ y ∈ ws, y.length ≤ 1000000) :
    Calls Tryd.prog 23 #[.pointer (some ⟨gA, 0, none⟩), .pointer (some ⟨gW, 0, none⟩), .pointer (some ⟨gE, 0, none⟩)] w (MutPost w [gA, gE] (fun _ : Unit => .int .i64 (numV ws i)) (fun _ u => BoxAt u gA [.int .i64 (if numE ws i = 0 then (i + 1 : Nat) else i : Nat)] ∧ BoxAt u gE [.int .i64 (numE ws i)])) := by
  have hln := hs.1
  have hstA : ∀ u : World, (w.heap.size ≤ u.heap.size ∧ ∀ b, W.heap.size ≤ b → b < w.heap.size → u.heap[b]? = w.heap[b]?) → Own1 W [gA] (fun _ => True) → True := fun _ _ _ => trivial
  have hownA : ∀ u : World, (w.heap.size ≤ u.heap.size ∧ ∀ b, W.heap.size ≤ b → b < w.heap.size → u.heap[b]? = w.heap[b]?) → ∀ b ∈ [gA], W.heap.size ≤ b ∧ ∃ cs ty own, u.heap[b]? = some (.cells cs ty own) := fun u h b hb => by
    obtain rfl : b = gA := by simpa using hb
    exact ⟨la, (ha.stay la h.2).own⟩
  have hownE : ∀ u : World, (w.heap.size ≤ u.heap.size ∧ ∀ b, W.heap.size ≤ b → b < w.heap.size → u.heap[b]? = w.heap[b]?) → ∀ b ∈ [gE], W.heap.size ≤ b ∧ ∃ cs ty own, u.heap[b]? = some (.cells cs ty own) := fun u h b hb => by
    obtain rfl : b = gE := by simpa using hb
    exact ⟨le, (he.stay le h.2).own⟩
  have hleft : ∀ (g : Nat) (v : Value) (wa u : World), wa.heap.size = u.heap.size → (∀ b, b ∉ [g] → wa.heap[b]? = u.heap[b]?) → (w.heap.size ≤ wa.heap.size ∧ ∀ b, W.heap.size ≤ b → b < w.heap.size → wa.heap[b]? = w.heap[b]?) → BoxAt u g [v] → But1 W w g v u := fun g v wa u e1 e2 h hG => ⟨by rw [← e1]; exact h.1, fun b h1 h2 h3 => (e2 b (by simpa using h3)).symm.trans (h.2 b h1 h2), hG⟩
  refine Good.enterW Tryd.func23 rfl hW ?_
  refine Good.run (by kernel_rfl) (stop := 1000) 1000 _ ?_
  refine Good.ask (ldS 3 ⟨gA, 0, none⟩) (.int .i64 i) (by kernel_rfl) (fun w1 hw h => run_ldS (by kernel_rfl) (ha.stay la h.2).one) ?_
  refine Good.run (by kernel_rfl) (stop := 1000) 1000 _ ?_
  refine Good.ask (ldS 43 ⟨gW, 0, none⟩) (.slice A n c) (by kernel_rfl) (fun w1 hw h => run_ldS (by kernel_rfl) (hb.stay lw h.2).one) ?_
  refine Good.run (by kernel_rfl) (stop := 1000) 1000 _ ?_
  by_cases hlt : i < n
  case neg =>
    obtain rfl : i = n := by omega
    have h0 : ws[i]? = none := List.getElem?_eq_none (by omega)
    have e1 : numE ws i = 3 := by rw [numE, h0]
    have e2 : numV ws i = 0 := by rw [numV, h0]
    rw [e1, e2]
    refine Good.condr (((i : Int) == (i : Int))) true (by kernel_rfl) (by simp) ?_
    refine Good.run (by kernel_rfl) (stop := 1000) 1000 _ ?_
    refine Good.mutSt (L := [gE]) (G := fun u => BoxAt u gE [.int .i64 3]) (Φ' := But1 W w gE (.int .i64 3)) (stS 24 ⟨gE, 0, none⟩ (.int .i64 3)) (fun w1 hw h => (he.stay le h.2).store (by kernel_rfl) rfl (by intro u hu; simp [Value.cells] at hu; subst hu; rfl)) (fun u h => hownE u h) (fun wa u e1 e2 h hG => hleft gE _ wa u e1 e2 h hG) (by kernel_rfl) (by kernel_rfl) ?_
    refine Good.run (by kernel_rfl) (stop := 1000) 1000 _ ?_
    refine Good.ret (v := .int .i64 0) (by kernel_rfl) (fun w1 hw h => mut_one hW hw (h w1 (Nat.le_refl _) fun _ _ _ => rfl) (.inr rfl) hne la le ha he (by simp [hne, Ne.symm hne]) (by simp [hne, Ne.symm hne]))
  obtain ⟨x, hx⟩ : ∃ x, ws[i]? = some x := ⟨_, List.getElem?_eq_getElem (by omega)⟩
  obtain ⟨ad, hA, hc⟩ := hs.2 i x hx
  have hxl := hlen x (List.mem_of_getElem? hx)
  have hv2 : numV ws i = piV x := by rw [numV, hx]
  have he2 : numE ws i = wnE x := by rw [numE, hx]
  have hcs : ∀ u : World, Below W.heap.size W u → (w.heap.size ≤ u.heap.size ∧ ∀ b, W.heap.size ≤ b → b < w.heap.size → u.heap[b]? = w.heap[b]?) → u.cell? (ad.add i) = some (strOf x) := fun u hu h => cell_to hc (by
    have hblt := cell_lt hc
    rcases Nat.lt_or_ge (ad.add i).block W.heap.size with h1 | h1
    · rw [hu.block _ h1, hW.block _ h1]
    · exact h.2 _ h1 hblt)
  rw [hv2, he2]
  refine Good.condr (((i : Int) == (n : Int))) false (by kernel_rfl) (by simp; omega) ?_
  refine Good.run (by kernel_rfl) (stop := 1000) 1000 _ ?_
  refine Good.ask (ldS 43 ⟨gW, 0, none⟩) (.slice A n c) (by kernel_rfl) (fun w1 hw h => run_ldS (by kernel_rfl) (hb.stay lw h.2).one) ?_
  refine Good.run (by kernel_rfl) (stop := 1000) 1000 _ ?_
  refine Good.ask (ldS 3 ⟨gA, 0, none⟩) (.int .i64 i) (by kernel_rfl) (fun w1 hw h => run_ldS (by kernel_rfl) (ha.stay la h.2).one) ?_
  refine Good.run (by kernel_rfl) (stop := 1000) 1000 _ ?_
  refine Good.ask (idxS 43 (.slice A n c) i) (.pointer (some (ad.add i))) (by kernel_rfl) (fun w1 hw h => by rw [hA]; exact run_idxS (elem := 9) (by kernel_rfl) (by kernel_rfl) hlt) ?_
  refine Good.run (by kernel_rfl) (stop := 1000) 1000 _ ?_
  refine Good.ask (ldS 9 (ad.add i)) (strOf x) (by kernel_rfl) (fun w1 hw h => run_ldS (by kernel_rfl) (hcs w1 hw h)) ?_
  refine Good.run (by kernel_rfl) (stop := 1000) 1000 _ ?_
  rcases piE_vals x with hp | hp | hp | hp
  · have e1 : wnE x = 0 := by rw [wnE, if_pos hp]
    rw [e1]
    refine Good.callv (fun w1 hw h => xparseInt_v hp rfl (by omega)) (by kernel_rfl) (fun u => ?_)
    refine Good.run (by kernel_rfl) (stop := 1000) 1000 _ ?_
    refine Good.cond true (by kernel_rfl) ?_
    refine Good.run (by kernel_rfl) (stop := 1000) 1000 _ ?_
    refine Good.ask (ldS 3 ⟨gA, 0, none⟩) (.int .i64 i) (by kernel_rfl) (fun w1 hw h => run_ldS (by kernel_rfl) (ha.stay la h.1.2).one) ?_
    refine Good.run (by kernel_rfl) (stop := 2) 1000 _ ?_
    refine Good.slot 22 (.int .i64 (IntKind.i64.wrap ((i : Int) + 1))) (.int .i64 ((i + 1 : Nat) : Int)) (by kernel_rfl) (by rw [wrap_succ hlt (by omega)]) ?_
    refine Good.mutSt (L := [gA]) (G := fun u => BoxAt u gA [.int .i64 ((i + 1 : Nat) : Int)]) (Φ' := But1 W w gA (.int .i64 ((i + 1 : Nat) : Int))) (stS 3 ⟨gA, 0, none⟩ (.int .i64 ((i + 1 : Nat) : Int))) (fun w1 hw h => (ha.stay la h.1.2).store (by kernel_rfl) rfl (by intro u hu; simp [Value.cells] at hu; subst hu; rfl)) (fun u h => hownA u h.1) (fun wa u e1 e2 h hG => hleft gA _ wa u e1 e2 h.1 hG) (by kernel_rfl) (by kernel_rfl) ?_
    refine Good.run (by kernel_rfl) (stop := 1000) 1000 _ ?_
    refine Good.ret (v := .int .i64 (piV x)) (by kernel_rfl) (fun w1 hw h => mut_one hW hw (h w1 (Nat.le_refl _) fun _ _ _ => rfl) (.inl rfl) hne la le ha he (by simp [hne, Ne.symm hne]) (by simp [hne, Ne.symm hne]))
  · have e1 : wnE x = 3 := by rw [wnE, hp]; rfl
    rw [e1]
    refine Good.callv (fun w1 hw h => xparseInt_v hp rfl (by omega)) (by kernel_rfl) (fun u => ?_)
    refine Good.run (by kernel_rfl) (stop := 1000) 1000 _ ?_
    refine Good.cond false (by kernel_rfl) ?_
    refine Good.run (by kernel_rfl) (stop := 1000) 1000 _ ?_
    refine Good.cond false (by kernel_rfl) ?_
    refine Good.run (by kernel_rfl) (stop := 1000) 1000 _ ?_
    refine Good.mutSt (L := [gE]) (G := fun u => BoxAt u gE [.int .i64 3]) (Φ' := But1 W w gE (.int .i64 3)) (stS 24 ⟨gE, 0, none⟩ (.int .i64 3)) (fun w1 hw h => (he.stay le h.1.2).store (by kernel_rfl) rfl (by intro u hu; simp [Value.cells] at hu; subst hu; rfl)) (fun u h => hownE u h.1) (fun wa u e1 e2 h hG => hleft gE _ wa u e1 e2 h.1 hG) (by kernel_rfl) (by kernel_rfl) ?_
    refine Good.run (by kernel_rfl) (stop := 1000) 1000 _ ?_
    refine Good.ret (v := .int .i64 (piV x)) (by kernel_rfl) (fun w1 hw h => mut_one hW hw (h w1 (Nat.le_refl _) fun _ _ _ => rfl) (.inr rfl) hne la le ha he (by simp [hne, Ne.symm hne]) (by simp [hne, Ne.symm hne]))
  · have e1 : wnE x = 3 := by rw [wnE, hp]; rfl
    rw [e1]
    refine Good.callv (fun w1 hw h => xparseInt_v hp rfl (by omega)) (by kernel_rfl) (fun u => ?_)
    refine Good.run (by kernel_rfl) (stop := 1000) 1000 _ ?_
    refine Good.cond false (by kernel_rfl) ?_
    refine Good.run (by kernel_rfl) (stop := 1000) 1000 _ ?_
    refine Good.cond false (by kernel_rfl) ?_
    refine Good.run (by kernel_rfl) (stop := 1000) 1000 _ ?_
    refine Good.mutSt (L := [gE]) (G := fun u => BoxAt u gE [.int .i64 3]) (Φ' := But1 W w gE (.int .i64 3)) (stS 24 ⟨gE, 0, none⟩ (.int .i64 3)) (fun w1 hw h => (he.stay le h.1.2).store (by kernel_rfl) rfl (by intro u hu; simp [Value.cells] at hu; subst hu; rfl)) (fun u h => hownE u h.1) (fun wa u e1 e2 h hG => hleft gE _ wa u e1 e2 h.1 hG) (by kernel_rfl) (by kernel_rfl) ?_
    refine Good.run (by kernel_rfl) (stop := 1000) 1000 _ ?_
    refine Good.ret (v := .int .i64 (piV x)) (by kernel_rfl) (fun w1 hw h => mut_one hW hw (h w1 (Nat.le_refl _) fun _ _ _ => rfl) (.inr rfl) hne la le ha he (by simp [hne, Ne.symm hne]) (by simp [hne, Ne.symm hne]))
  · have e1 : wnE x = 6 := by rw [wnE, hp]; rfl
    rw [e1]
    refine Good.callv (fun w1 hw h => xparseInt_v hp rfl (by omega)) (by kernel_rfl) (fun u => ?_)
    refine Good.run (by kernel_rfl) (stop := 1000) 1000 _ ?_
    refine Good.cond false (by kernel_rfl) ?_
    refine Good.run (by kernel_rfl) (stop := 1000) 1000 _ ?_
    refine Good.cond true (by kernel_rfl) ?_
    refine Good.run (by kernel_rfl) (stop := 1000) 1000 _ ?_
    refine Good.mutSt (L := [gE]) (G := fun u => BoxAt u gE [.int .i64 6]) (Φ' := But1 W w gE (.int .i64 6)) (stS 24 ⟨gE, 0, none⟩ (.int .i64 6)) (fun w1 hw h => (he.stay le h.1.2).store (by kernel_rfl) rfl (by intro u hu; simp [Value.cells] at hu; subst hu; rfl)) (fun u h => hownE u h.1) (fun wa u e1 e2 h hG => hleft gE _ wa u e1 e2 h.1 hG) (by kernel_rfl) (by kernel_rfl) ?_
    refine Good.run (by kernel_rfl) (stop := 1000) 1000 _ ?_
    refine Good.ret (v := .int .i64 (piV x)) (by kernel_rfl) (fun w1 hw h => mut_one hW hw (h w1 (Nat.le_refl _) fun _ _ _ => rfl) (.inr rfl) hne la le ha he (by simp [hne, Ne.symm hne]) (by simp [hne, Ne.symm hne]))
end

theorem MakePost.cast {P : Program} {w : World} {X : Type} {val : X → Value} {G G' : X → World → Prop} {s : Sem Next} (h : MakePost P w val G s) (hG : ∀ x u, G x u → G' x u) : MakePost P w val G' s := by
  obtain ⟨x, w', h1, h2, h3⟩ := h
  exact ⟨x, w', h1, h2, fun w'' k1 k2 => hG _ _ (h3 w'' k1 k2)⟩
theorem make_allF {P : Program} {w : World} {t : TypeId} {z : Value} {N : Nat} {L : List Nat} (hz : zeroOf P t = some z) (hN : N ≤ w.heap.size) (hL : ∀ b ∈ L, b < w.heap.size) : MakePost P w ptr (fun g u => BoxAt u g z.cells.toList ∧ N ≤ g ∧ g ∉ L) (allS t) :=
  (make_all (N := w.heap.size) hz (Nat.le_refl _)).cast fun g u h => ⟨h.1, Nat.le_trans hN h.2.1, fun hm => by have := hL g hm; have := h.2.1; omega⟩
theorem make_litF {P : Program} {w : World} {t elem : TypeId} {len : Nat} {parts : Array (Nat × Value)} {cells : Array Value} {L : List Nat} (h : litOf P t len parts = some (elem, cells)) (hL : ∀ b ∈ L, b < w.heap.size) :
    MakePost P w (litV len) (fun g u => litG elem cells g u ∧ g ∉ L) (litS t len parts) :=
  ((make_lit h).fresh (fun g => [g]) (fun g u h b hb => by rw [List.mem_singleton.1 hb]; exact ⟨_, _, _, h⟩)).cast fun g u h => ⟨h.1, fun hm => by have := hL g hm; have := h.2 g (by simp); omega⟩
theorem lit_left {e : TypeId} {cells : Array Value} {g : Nat} {L : List Nat} {wa u : World} (h : litG e cells g wa) (e2 : ∀ b, b ∉ L → wa.heap[b]? = u.heap[b]?) (hg : g ∉ L) : litG e cells g u := (e2 g hg).symm.trans h
/-- What the reader's boxes and the rows hold. -/
structure PB (B gW gA gE : Nat) (A : Option Addr) (n c : Nat) (ws : List (List UInt8)) (y : Option Addr) (m yc : Nat) (acc : List Sg) (i : Nat) (e : Int) (u : World) : Prop where
  bw : BoxAt u gW [.slice A n c]
  ba : BoxAt u gA [.int .i64 i]
  be : BoxAt u gE [.int .i64 e]
  st : StrAt u A n ws
  ow : OwnR u B 41 7 y m yc (gv acc)
structure DB (W : World) (gW gA gE : Nat) (A y : Option Addr) : Prop where
  la : W.heap.size ≤ gA
  lw : W.heap.size ≤ gW
  le : W.heap.size ≤ gE
  ae : gA ≠ gE
  wa : gW ≠ gA
  we : gW ≠ gE
  sa : gA ∉ bl A
  se : gE ∉ bl A
  ya : gA ∉ bl y
  ye : gE ∉ bl y
  yw : gW ∉ bl y
  sy : ∀ b ∈ bl A, b ∉ bl y
theorem PB.mutAE {W wa u : World} {B gW gA gE : Nat} {A : Option Addr} {n c : Nat} {ws : List (List UInt8)} {y : Option Addr} {m yc : Nat} {acc : List Sg} {i i' : Nat} {e e' : Int} (h : PB B gW gA gE A n c ws y m yc acc i e wa) (D : DB W gW gA gE A y)
    (e2 : ∀ b, b ∉ [gA, gE] → wa.heap[b]? = u.heap[b]?) (hG : BoxAt u gA [.int .i64 i'] ∧ BoxAt u gE [.int .i64 e']) : PB B gW gA gE A n c ws y m yc acc i' e' u := by
  refine ⟨h.bw.left e2 (by simp [D.wa, D.we]), hG.1, hG.2, h.st.left e2 fun b hb hm => ?_, h.ow.left e2 fun b hb hm => ?_⟩
  · rcases List.mem_cons.1 hm with rfl | hm
    · exact D.sa hb
    · obtain rfl : b = gE := by simpa using hm
      exact D.se hb
  · rcases List.mem_cons.1 hm with rfl | hm
    · exact D.ya hb
    · obtain rfl : b = gE := by simpa using hm
      exact D.ye hb
theorem PB.mutA {W wa u : World} {B gW gA gE : Nat} {A : Option Addr} {n c : Nat} {ws : List (List UInt8)} {y : Option Addr} {m yc : Nat} {acc : List Sg} {i i' : Nat} {e : Int} (h : PB B gW gA gE A n c ws y m yc acc i e wa) (D : DB W gW gA gE A y)
    (e2 : ∀ b, b ∉ [gA] → wa.heap[b]? = u.heap[b]?) (hG : BoxAt u gA [.int .i64 i']) : PB B gW gA gE A n c ws y m yc acc i' e u :=
  h.mutAE D (fun b hb => e2 b (by simp at hb ⊢; exact hb.1)) ⟨hG, h.be.left e2 (by simp [Ne.symm D.ae])⟩
theorem PB.mutX {wa u : World} {B gW gA gE gX : Nat} {A : Option Addr} {n c : Nat} {ws : List (List UInt8)} {y : Option Addr} {m yc : Nat} {acc : List Sg} {i : Nat} {e : Int} (h : PB B gW gA gE A n c ws y m yc acc i e wa)
    (hX : gX ∉ gW :: gA :: gE :: (bl A ++ bl y)) (e2 : ∀ b, b ∉ [gX] → wa.heap[b]? = u.heap[b]?) : PB B gW gA gE A n c ws y m yc acc i e u := by
  simp only [List.mem_cons, List.mem_append, not_or] at hX
  obtain ⟨h1, h2, h3, h4, h5⟩ := hX
  refine ⟨h.bw.left e2 (by simp [Ne.symm h1]), h.ba.left e2 (by simp [Ne.symm h2]), h.be.left e2 (by simp [Ne.symm h3]), h.st.left e2 fun b hb hm => ?_, h.ow.left e2 fun b hb hm => ?_⟩
  · obtain rfl : b = gX := by simpa using hm
    exact h4 hb
  · obtain rfl : b = gX := by simpa using hm
    exact h5 hb
theorem PB.app {W wa u : World} {B gW gA gE : Nat} {A : Option Addr} {n c : Nat} {ws : List (List UInt8)} {y z : Option Addr} {m yc m' zc : Nat} {acc acc' : List Sg} {i : Nat} {e : Int} (h : PB B gW gA gE A n c ws y m yc acc i e wa) (D : DB W gW gA gE A y)
    (e2 : ∀ b, b ∉ bl y → wa.heap[b]? = u.heap[b]?) (hG : OwnR u B 41 7 z m' zc (gv acc')) : PB B gW gA gE A n c ws z m' zc acc' i e u :=
  ⟨h.bw.left e2 D.yw, h.ba.left e2 D.ya, h.be.left e2 D.ye, h.st.left e2 D.sy, hG⟩
theorem PB.own {W u : World} {B gW gA gE : Nat} {A : Option Addr} {n c : Nat} {ws : List (List UInt8)} {y : Option Addr} {m yc : Nat} {acc : List Sg} {i : Nat} {e : Int} (h : PB B gW gA gE A n c ws y m yc acc i e u) (D : DB W gW gA gE A y) : ∀ b ∈ [gA, gE], W.heap.size ≤ b ∧ ∃ cs ty own, u.heap[b]? = some (.cells cs ty own) := fun b hb => by
  rcases List.mem_cons.1 hb with rfl | hm
  · exact ⟨D.la, h.ba.own⟩
  · obtain rfl : b = gE := by simpa using hm
    exact ⟨D.le, h.be.own⟩
theorem PB.lts {u : World} {B gW gA gE : Nat} {A : Option Addr} {n c : Nat} {ws : List (List UInt8)} {y : Option Addr} {m yc : Nat} {acc : List Sg} {i : Nat} {e : Int} (h : PB B gW gA gE A n c ws y m yc acc i e u) (hA : ∀ b ∈ bl A, b < u.heap.size) : ∀ b ∈ gW :: gA :: gE :: (bl A ++ bl y), b < u.heap.size := fun b hb => by
  simp only [List.mem_cons, List.mem_append] at hb
  rcases hb with rfl | rfl | rfl | hb | hb
  · exact h.bw.lt
  · exact h.ba.lt
  · exact h.be.lt
  · exact hA b hb
  · exact (h.ow.lt b hb).2
section
variable {w W : World} {l : List UInt8} {A : Option Addr} {n c : Nat} {ws : List (List UInt8)}
theorem str_cell {b0 : Nat} (h : StrAt w (some ⟨b0, 0, none⟩) n ws) (h0 : 0 < n) : ∃ s, w.cell? ⟨b0, 0, none⟩ = some (strOf s) := by
  obtain ⟨s, hs⟩ : ∃ s, ws[0]? = some s := ⟨_, List.getElem?_eq_getElem (by rw [h.1]; exact h0)⟩
  obtain ⟨ad, h1, h2⟩ := h.2 0 s hs
  obtain rfl : ad = ⟨b0, 0, none⟩ := by injection h1 with h1; exact h1.symm
  rw [Addr.add_mid] at h2
  exact ⟨s, h2⟩
theorem str_ne {b0 g : Nat} {v : Value} {vs : List Value} (h : StrAt w (some ⟨b0, 0, none⟩) n ws) (h0 : 0 < n) (hb : BoxAt w g (v :: vs)) (hv : ∀ s, v ≠ strOf s) : g ∉ bl (some (⟨b0, 0, none⟩ : Addr)) := fun hm => by
  obtain rfl : g = b0 := by simpa [bl] using hm
  obtain ⟨s, hs⟩ := str_cell h h0
  rw [hb.cell] at hs
  simp at hs
  exact hv s hs
theorem own_cells {B m yc : Nat} {y : Option Addr} {acc : List Sg} (h : OwnR w B 41 7 y m yc (gv acc)) (hl : acc.length = m) (h0 : m = 0 → y = none) : ∀ b ∈ bl y, (∃ v, w.cell? ⟨b, 0, none⟩ = some (.int .i64 v)) ∧ ∃ v, w.cell? ⟨b, 1, none⟩ = some v := fun b hb => by
  have hm : 0 < m := by
    rcases Nat.eq_zero_or_pos m with h1 | h1
    · rw [h0 h1] at hb; simp [bl] at hb
    · exact h1
  obtain ⟨g, hg, hc⟩ := h.cells hm
  obtain ⟨s, hs⟩ : ∃ s, acc[0]? = some s := ⟨_, List.getElem?_eq_getElem (by omega)⟩
  rw [hg] at hb
  obtain rfl : b = g := by simpa [bl] using hb
  exact ⟨⟨s.v, hc 0 _ (gv_get (j := 0) hs rfl)⟩, _, hc 1 _ (gv_get (j := 1) hs rfl)⟩
theorem own_ne1 {B m yc g : Nat} {y : Option Addr} {acc : List Sg} {v : Value} (h : OwnR w B 41 7 y m yc (gv acc)) (hl : acc.length = m) (h0 : m = 0 → y = none) (hb : BoxAt w g [v]) : g ∉ bl y := fun hm => by
  obtain ⟨_, v1, h2⟩ := own_cells h hl h0 g hm
  rw [hb.cell] at h2
  simp at h2
theorem own_ne_str {B m yc b0 : Nat} {y : Option Addr} {acc : List Sg} (h : OwnR w B 41 7 y m yc (gv acc)) (hl : acc.length = m) (h0 : m = 0 → y = none) (hs : StrAt w (some ⟨b0, 0, none⟩) n ws) (hn : 0 < n) : ∀ b ∈ bl (some (⟨b0, 0, none⟩ : Addr)), b ∉ bl y := fun b hb hm => by
  obtain rfl : b = b0 := by simpa [bl] using hb
  obtain ⟨⟨v, h1⟩, _⟩ := own_cells h hl h0 b hm
  obtain ⟨s, h2⟩ := str_cell hs hn
  rw [h2] at h1
  cases h1
theorem next_v {gA gW gE i i' : Nat} {e' v' : Int} (hW : Below W.heap.size W w) {B : Nat} {y : Option Addr} {m yc : Nat} {acc : List Sg} (h : PB B gW gA gE A n c ws y m yc acc i 0 w) (D : DB W gW gA gE A y)
    (hi : i ≤ n) (hn : n ≤ 1000000) (hlen : ∀ y ∈ ws, y.length ≤ 1000000) (h1 : (if numE ws i = 0 then i + 1 else i) = i') (h2 : numE ws i = e') (h3 : numV ws i = v') :
    Calls Tryd.prog 23 #[.pointer (some ⟨gA, 0, none⟩), .pointer (some ⟨gW, 0, none⟩), .pointer (some ⟨gE, 0, none⟩)] w (MutPost w [gA, gE] (fun _ : Unit => .int .i64 v') (fun _ u => BoxAt u gA [.int .i64 i'] ∧ BoxAt u gE [.int .i64 e'])) := by
  subst h1 h2 h3
  exact next_m hW h.ba h.bw h.be D.la D.lw D.le D.ae h.st hi hn hlen
set_option maxRecDepth 100000 in
set_option maxHeartbeats 2000000 in
theorem parse_big (h : 65536 < l.length) (hl : l.length ≤ 1000000) : Calls Tryd.prog 12 #[strOf l] w (CallPost w (fun _ : Unit => .tuple #[.slice none 0 0, .int .i64 0, .int .i64 5]) fun _ _ => True) := by
  refine Good.enter Tryd.func12 rfl ?_
  refine Good.run (by kernel_rfl) (stop := 1000) 1000 _ ?_
  refine Good.condr (decide ((l.length : Int) > 65536)) true (by kernel_rfl) (by simp; omega) ?_
  refine Good.run (by kernel_rfl) (stop := 1000) 1000 _ ?_
  refine Good.ret (v := .tuple #[.slice none 0 0, .int .i64 0, .int .i64 5]) (by kernel_rfl) (fun w1 hw h => ⟨(), rfl, hw, fun _ _ _ => trivial⟩)
set_option maxRecDepth 100000 in
set_option maxHeartbeats 2000000 in
theorem parse_nil : Calls Tryd.prog 12 #[strOf []] w (CallPost w (fun _ : Unit => .tuple #[.slice none 0 0, .int .i64 0, .int .i64 0]) fun _ _ => True) := by
  refine Good.enter Tryd.func12 rfl ?_
  refine Good.run (by kernel_rfl) (stop := 1000) 1000 _ ?_
  refine Good.condr (decide (((0 : Nat) : Int) > 65536)) false (by kernel_rfl) (by simp) ?_
  refine Good.run (by kernel_rfl) (stop := 0) 1000 _ ?_
  refine Good.make (allS 43) (ptr) (fun g u => BoxAt u g [.slice none 0 0] ∧ w.heap.size ≤ g ∧ g ∉ []) (by kernel_rfl) (fun w1 hw h => make_allF (z := .slice none 0 0) (by kernel_rfl) hw.size (by simp)) (fun gW => ?_)
  refine Good.run (by kernel_rfl) (stop := 1) 1000 _ ?_
  refine Good.pure_ (p := w.heap.size ≤ gW) (fun u hu h => h.2.2.1) (by kernel_rfl) (fun hgW => ?_)
  refine Good.ask (opS .neq 9 (.tmp 21) (.const (.string ⟨#[]⟩)) (strOf []) (strOf [])) (.bool false) (by kernel_rfl) (fun w1 hw h => run_neS (by simp)) ?_
  refine Good.run (by kernel_rfl) (stop := 1000) 1000 _ ?_
  refine Good.cond false (by kernel_rfl) ?_
  refine Good.run (by kernel_rfl) (stop := 0) 1000 _ ?_
  refine Good.make (allS 3) (ptr) (fun g u => BoxAt u g [.int .i64 0] ∧ w.heap.size ≤ g ∧ g ∉ [gW]) (by kernel_rfl) (fun w1 hw h => make_allF (z := .int .i64 0) (by kernel_rfl) hw.size (by intro b hb; obtain rfl : b = gW := by { simpa using hb }; exact h.2.1.lt)) (fun gA => ?_)
  refine Good.run (by kernel_rfl) (stop := 1) 1000 _ ?_
  refine Good.make (allS 24) (ptr) (fun g u => BoxAt u g [.int .i64 0] ∧ w.heap.size ≤ g ∧ g ∉ [gW, gA]) (by kernel_rfl) (fun w1 hw h => make_allF (z := .int .i64 0) (by kernel_rfl) hw.size (by intro b hb; rcases List.mem_cons.1 hb with rfl | hb; exact h.1.2.1.lt; obtain rfl : b = gA := by { simpa using hb }; exact h.2.1.lt)) (fun gE => ?_)
  refine Good.run (by kernel_rfl) (stop := 2) 1000 _ ?_
  refine Good.pure_ (p := (w.heap.size ≤ gA ∧ gA ∉ [gW]) ∧ (w.heap.size ≤ gE ∧ gE ∉ [gW, gA])) (fun u hu h => ⟨h.1.2.2, h.2.2⟩) (by kernel_rfl) (fun hp => ?_)
  obtain ⟨⟨la, ha⟩, le, he⟩ := hp
  simp only [List.mem_cons, List.not_mem_nil, or_false, not_or] at ha he
  refine Good.mutSt (L := [gA]) (G := fun u => BoxAt u gA [.int .i64 0]) (Φ' := fun u => BoxAt u gW [.slice none 0 0] ∧ BoxAt u gA [.int .i64 0] ∧ BoxAt u gE [.int .i64 0]) (stS 3 ⟨gA, 0, none⟩ (.int .i64 0)) (fun w1 hw h => h.1.2.1.store (by kernel_rfl) rfl (by intro u hu; simp [Value.cells] at hu; subst hu; rfl)) (fun u h b hb => by obtain rfl : b = gA := by { simpa using hb }; exact ⟨la, h.1.2.1.own⟩) (fun wa u e1 e2 h hG => ⟨h.1.1.2.1.left e2 (by simp [Ne.symm ha]), hG, h.2.1.left e2 (by simp [he.2])⟩) (by kernel_rfl) (by kernel_rfl) ?_
  refine Good.run (by kernel_rfl) (stop := 1000) 1000 _ ?_
  refine Good.mutSt (L := [gE]) (G := fun u => BoxAt u gE [.int .i64 0]) (Φ' := fun u => BoxAt u gW [.slice none 0 0] ∧ BoxAt u gA [.int .i64 0] ∧ BoxAt u gE [.int .i64 0]) (stS 24 ⟨gE, 0, none⟩ (.int .i64 0)) (fun w1 hw h => h.2.2.store (by kernel_rfl) rfl (by intro u hu; simp [Value.cells] at hu; subst hu; rfl)) (fun u h b hb => by obtain rfl : b = gE := by { simpa using hb }; exact ⟨le, h.2.2.own⟩) (fun wa u e1 e2 h hG => ⟨h.1.left e2 (by simp [Ne.symm he.1]), h.2.1.left e2 (by simp [Ne.symm he.2]), hG⟩) (by kernel_rfl) (by kernel_rfl) ?_
  refine Good.run (by kernel_rfl) (stop := 1000) 1000 _ ?_
  refine Good.un (by kernel_rfl) ?_
  refine Good.run (by kernel_rfl) (stop := 1000) 1000 _ ?_
  refine Good.ask (ldS 3 ⟨gA, 0, none⟩) (.int .i64 0) (by kernel_rfl) (fun w1 hw h => run_ldS (by kernel_rfl) h.2.1.one) ?_
  refine Good.run (by kernel_rfl) (stop := 1000) 1000 _ ?_
  refine Good.ask (ldS 43 ⟨gW, 0, none⟩) (.slice none 0 0) (by kernel_rfl) (fun w1 hw h => run_ldS (by kernel_rfl) h.1.one) ?_
  refine Good.run (by kernel_rfl) (stop := 1000) 1000 _ ?_
  refine Good.cond false (by kernel_rfl) ?_
  refine Good.run (by kernel_rfl) (stop := 1000) 1000 _ ?_
  refine Good.callv (fun w1 hw h => check_m (ls := []) (A := none) (n := 0) (c := 0) (e := 0) (i := 0) ⟨rfl, fun k s hk => by simp at hk⟩ (by decide) rfl) (by kernel_rfl) (fun u => ?_)
  refine Good.run (by kernel_rfl) (stop := 1000) 1000 _ ?_
  refine Good.cond false (by kernel_rfl) ?_
  refine Good.run (by kernel_rfl) (stop := 1000) 1000 _ ?_
  refine Good.ret (v := .tuple #[.slice none 0 0, .int .i64 0, .int .i64 0]) (by kernel_rfl) (fun w1 hw h => ⟨(), rfl, hw, fun _ _ _ => trivial⟩)
set_option maxRecDepth 100000 in
set_option maxHeartbeats 8000000 in
theorem parse_w {out : List Sg} {at_ : Nat} {e : Int} (hM : ML w) (h0 : l ≠ []) (hl : l.length ≤ 65536) (hR : parseW (wordsF l) 0 [] = (out, at_, e)) : Calls Tryd.prog 12 #[strOf l] w (CallPost w (fun y : Option Addr × Nat => .tuple #[.slice y.1 out.length y.2, .int .i64 at_, .int .i64 e]) fun y u => SgAt u y.1 out.length out) := by
  have hwl := words_len l
  have hmem : ∀ x ∈ wordsF l, x.length ≤ 1000000 := fun x hx => by have := words_mem l x hx; omega
  have hws0 : wordsF l = splitBy 32 l := if_neg h0
  have hpos : 0 < (splitBy 32 l).length := List.length_pos_iff.2 (splitBy_ne 32 l)
  rw [hws0] at hR hwl hmem
  refine Good.enter Tryd.func12 rfl ?_
  refine Good.run (by kernel_rfl) (stop := 1000) 1000 _ ?_
  refine Good.condr (decide ((l.length : Int) > 65536)) false (by kernel_rfl) (by simp; omega) ?_
  refine Good.run (by kernel_rfl) (stop := 0) 1000 _ ?_
  refine Good.make (allS 43) (ptr) (fun g u => BoxAt u g [.slice none 0 0] ∧ w.heap.size ≤ g ∧ g ∉ []) (by kernel_rfl) (fun w1 hw h => make_allF (z := .slice none 0 0) (by kernel_rfl) hw.size (by simp)) (fun gW => ?_)
  refine Good.run (by kernel_rfl) (stop := 1) 1000 _ ?_
  refine Good.pure_ (p := w.heap.size ≤ gW) (fun u hu h => h.2.2.1) (by kernel_rfl) (fun lw => ?_)
  refine Good.ask (opS .neq 9 (.tmp 21) (.const (.string ⟨#[]⟩)) (strOf l) (strOf [])) (.bool true) (by kernel_rfl) (fun w1 hw h => run_neS (by simpa using h0)) ?_
  refine Good.run (by kernel_rfl) (stop := 1000) 1000 _ ?_
  refine Good.cond true (by kernel_rfl) ?_
  refine Good.run (by kernel_rfl) (stop := 1000) 1000 _ ?_
  refine Good.callv (fun w1 hw h => split_m (l := l) 32 (hM.below hw) (by omega)) (by kernel_rfl) (fun b0 => ?_)
  refine Good.run (by kernel_rfl) (stop := 1000) 1000 _ ?_
  obtain ⟨ws, hws⟩ : ∃ ws, ws = splitBy 32 l := ⟨_, rfl⟩
  rw [← hws] at hR hwl hmem hpos ⊢
  obtain ⟨n, hn⟩ : ∃ n, n = ws.length := ⟨_, rfl⟩
  rw [← hn] at hwl hpos ⊢
  refine Good.mutSt (L := [gW]) (G := fun u => BoxAt u gW [.slice (some ⟨b0, 0, none⟩) n n]) (Φ' := fun u => BoxAt u gW [.slice (some ⟨b0, 0, none⟩) n n] ∧ StrAt u (some ⟨b0, 0, none⟩) n ws) (stS 43 ⟨gW, 0, none⟩ (.slice (some ⟨b0, 0, none⟩) n n)) (fun w1 hw h => h.1.2.1.store (by kernel_rfl) rfl (by intro u hu; simp [Value.cells] at hu; subst hu; rfl)) (fun u h b hb => by obtain rfl : b = gW := by { simpa using hb }; exact ⟨lw, h.1.2.1.own⟩) (fun wa u e1 e2 h hG => ⟨hG, h.2.left e2 fun b hb hm => by obtain rfl : b = gW := by { simpa using hm }; exact str_ne h.2 hpos h.1.2.1 (fun s hs => by cases hs) hb⟩) (by kernel_rfl) (by kernel_rfl) ?_
  refine Good.run (by kernel_rfl) (stop := 0) 1000 _ ?_
  refine Good.make (allS 3) (ptr) (fun g u => BoxAt u g [.int .i64 0] ∧ w.heap.size ≤ g ∧ g ∉ [gW]) (by kernel_rfl) (fun w1 hw h => make_allF (z := .int .i64 0) (by kernel_rfl) hw.size (by intro b hb; obtain rfl : b = gW := by { simpa using hb }; exact h.1.lt)) (fun gA => ?_)
  refine Good.run (by kernel_rfl) (stop := 1) 1000 _ ?_
  refine Good.make (allS 24) (ptr) (fun g u => BoxAt u g [.int .i64 0] ∧ w.heap.size ≤ g ∧ g ∉ [gW, gA]) (by kernel_rfl) (fun w1 hw h => make_allF (z := .int .i64 0) (by kernel_rfl) hw.size (by intro b hb; rcases List.mem_cons.1 hb with rfl | hb; exact h.1.1.lt; obtain rfl : b = gA := by { simpa using hb }; exact h.2.1.lt)) (fun gE => ?_)
  refine Good.run (by kernel_rfl) (stop := 2) 1000 _ ?_
  refine Good.pure_ (p := (w.heap.size ≤ gA ∧ gA ∉ [gW]) ∧ (w.heap.size ≤ gE ∧ gE ∉ [gW, gA]) ∧ gA ∉ bl (some (⟨b0, 0, none⟩ : Addr)) ∧ gE ∉ bl (some (⟨b0, 0, none⟩ : Addr))) (fun u hu h => ⟨h.1.2.2, h.2.2, str_ne h.1.1.2 hpos h.1.2.1 (fun s hs => by cases hs), str_ne h.1.1.2 hpos h.2.1 (fun s hs => by cases hs)⟩) (by kernel_rfl) (fun hp => ?_)
  obtain ⟨⟨la, ha⟩, ⟨le, he⟩, sa, se⟩ := hp
  simp only [List.mem_cons, List.not_mem_nil, or_false, not_or] at ha he
  refine Good.mutSt (L := [gA]) (G := fun u => BoxAt u gA [.int .i64 0]) (Φ' := fun u => (BoxAt u gW [.slice (some ⟨b0, 0, none⟩) n n] ∧ StrAt u (some ⟨b0, 0, none⟩) n ws) ∧ BoxAt u gA [.int .i64 0] ∧ BoxAt u gE [.int .i64 0]) (stS 3 ⟨gA, 0, none⟩ (.int .i64 0)) (fun w1 hw h => h.1.2.1.store (by kernel_rfl) rfl (by intro u hu; simp [Value.cells] at hu; subst hu; rfl)) (fun u h b hb => by obtain rfl : b = gA := by { simpa using hb }; exact ⟨la, h.1.2.1.own⟩) (fun wa u e1 e2 h hG => ⟨⟨h.1.1.1.left e2 (by simp [Ne.symm ha]), h.1.1.2.left e2 fun b hb hm => by obtain rfl : b = gA := by { simpa using hm }; exact sa hb⟩, hG, h.2.1.left e2 (by simp [he.2])⟩) (by kernel_rfl) (by kernel_rfl) ?_
  refine Good.run (by kernel_rfl) (stop := 1000) 1000 _ ?_
  refine Good.mutSt (L := [gE]) (G := fun u => BoxAt u gE [.int .i64 0]) (Φ' := fun u => (BoxAt u gW [.slice (some ⟨b0, 0, none⟩) n n] ∧ StrAt u (some ⟨b0, 0, none⟩) n ws) ∧ BoxAt u gA [.int .i64 0] ∧ BoxAt u gE [.int .i64 0]) (stS 24 ⟨gE, 0, none⟩ (.int .i64 0)) (fun w1 hw h => h.2.2.store (by kernel_rfl) rfl (by intro u hu; simp [Value.cells] at hu; subst hu; rfl)) (fun u h b hb => by obtain rfl : b = gE := by { simpa using hb }; exact ⟨le, h.2.2.own⟩) (fun wa u e1 e2 h hG => ⟨⟨h.1.1.left e2 (by simp [Ne.symm he.1]), h.1.2.left e2 fun b hb hm => by obtain rfl : b = gE := by { simpa using hm }; exact se hb⟩, h.2.1.left e2 (by simp [Ne.symm he.2]), hG⟩) (by kernel_rfl) (by kernel_rfl) ?_
  refine Good.run (by kernel_rfl) (stop := 1000) 1000 _ ?_
  obtain ⟨A, hAd⟩ : ∃ A : Option Addr, A = some ⟨b0, 0, none⟩ := ⟨_, rfl⟩
  rw [← hAd]
  refine Good.loop (ι := {q : (Nat × Nat × List Sg) × (Option Addr × Nat) // q.1.1 ≤ n ∧ q.1.2.1 ≤ q.1.1 ∧ q.1.2.2.length = q.1.2.1 ∧ (q.1.2.1 = 0 → q.2.1 = none) ∧ parseW ws q.1.1 q.1.2.2 = (out, at_, e)}) 92 (fun q => ⟨[(5, .v (ptr gW)), (6, .v (ptr gA)), (7, .v (ptr gE)), (8, .v (.func (.func 23) #[] #[ptr gA, ptr gW, ptr gE])), (9, .v (.slice q.1.2.1 q.1.1.2.1 q.1.2.2))], []⟩) (fun q u => PB w.heap.size gW gA gE A n n ws q.1.2.1 q.1.1.2.1 q.1.2.2 q.1.1.2.2 q.1.1.1 0 u) (fun q => n - q.1.1.1) (⟨((0, 0, []), (none, 0)), Nat.zero_le _, Nat.le_refl _, rfl, fun _ => rfl, hR⟩) (by kernel_rfl) (fun _ => by kernel_rfl) ⟨by kernel_rfl, by kernel_rfl, by kernel_rfl⟩ (fun u h => ⟨h.1.1, h.2.1, h.2.2, h.1.2, OwnR.nil_⟩) ?_
  clear hR
  rintro ⟨⟨⟨i, m, acc⟩, y, yc⟩, hk⟩ g
  have hi : i ≤ n := hk.1
  have hmi : m ≤ i := hk.2.1
  have hacc : acc.length = m := hk.2.2.1
  have hy0 : m = 0 → y = none := hk.2.2.2.1
  have hR : parseW ws i acc = (out, at_, e) := hk.2.2.2.2
  refine Good.pure_ (p := DB w gW gA gE A y) (fun u hu h => ⟨la, lw, le, Ne.symm he.2, Ne.symm ha, Ne.symm he.1, by rw [hAd]; exact sa, by rw [hAd]; exact se, own_ne1 (PB.ow h) hacc hy0 (PB.ba h), own_ne1 (PB.ow h) hacc hy0 (PB.be h), own_ne1 (PB.ow h) hacc hy0 (PB.bw h), by have h3 := PB.st h; rw [hAd] at h3 ⊢; exact own_ne_str (PB.ow h) hacc hy0 h3 hpos⟩) (by kernel_rfl) (fun D => ?_)
  have hAlt : ∀ u : World, PB w.heap.size gW gA gE A n n ws y m yc acc i 0 u → ∀ b ∈ bl A, b < u.heap.size := fun u h b hb => by
    have h3 := h.st
    rw [hAd] at h3 hb
    obtain ⟨s, hs⟩ := str_cell h3 hpos
    obtain rfl : b = b0 := by simpa [bl] using hb
    exact cell_lt hs
  refine Good.run (by kernel_rfl) (stop := 1000) 1000 _ ?_
  refine Good.ask (ldS 3 ⟨gA, 0, none⟩) (.int .i64 i) (by kernel_rfl) (fun w1 hw h => run_ldS (by kernel_rfl) (PB.ba h).one) ?_
  refine Good.run (by kernel_rfl) (stop := 1000) 1000 _ ?_
  refine Good.ask (ldS 43 ⟨gW, 0, none⟩) (.slice A n n) (by kernel_rfl) (fun w1 hw h => run_ldS (by kernel_rfl) (PB.bw h).one) ?_
  refine Good.run (by kernel_rfl) (stop := 1000) 1000 _ ?_
  by_cases hlt : i < n
  case neg =>
    obtain rfl : i = n := by omega
    rw [pw_end (by omega), endP] at hR
    obtain ⟨e2, k2, hch⟩ : ∃ e k, chk acc = (e, k) := ⟨_, _, rfl⟩
    rw [hch] at hR
    refine Good.condr (decide ((i : Int) < (i : Int))) false (by kernel_rfl) (by simp) ?_
    refine Good.run (by kernel_rfl) (stop := 1000) 1000 _ ?_
    refine Good.leave (by kernel_rfl) ?_
    refine Good.run (by kernel_rfl) (stop := 1000) 1000 _ ?_
    refine Good.callv (fun w1 hw h => check_m (A := y) (n := m) (c := yc) (own_segs (PB.ow h) hacc) (by omega) hch) (by kernel_rfl) (fun u => ?_)
    refine Good.run (by kernel_rfl) (stop := 1000) 1000 _ ?_
    by_cases he2 : e2 = 0
    · subst he2
      rw [if_pos rfl] at hR
      cases hR
      refine Good.condr (((0 : Int) != 0)) false (by kernel_rfl) (rfl) ?_
      refine Good.run (by kernel_rfl) (stop := 1000) 1000 _ ?_
      refine Good.ret (v := .tuple #[.slice y m yc, .int .i64 0, .int .i64 0]) (by kernel_rfl) (fun w1 hw h => ⟨(y, yc), by rw [← hacc]; rfl, hw, fun w'' k1 k2 => by rw [hacc]; exact own_segs (PB.ow (h w'' k1 k2).1) hacc⟩)
    · rw [if_neg he2] at hR
      cases hR
      refine Good.condr ((e2 != 0)) true (by kernel_rfl) (by simpa using he2) ?_
      refine Good.run (by kernel_rfl) (stop := 1000) 1000 _ ?_
      refine Good.ret (v := .tuple #[.slice none 0 0, .int .i64 k2, .int .i64 e2]) (by kernel_rfl) (fun w1 hw h => ⟨(none, 0), rfl, hw, fun _ _ _ => ⟨rfl, fun k s hk => by simp at hk⟩⟩)
  obtain ⟨x, hx⟩ : ∃ x, ws[i]? = some x := ⟨_, List.getElem?_eq_getElem (by omega)⟩
  have hxl := hmem x (List.mem_of_getElem? hx)
  refine Good.condr (decide ((i : Int) < (n : Int))) true (by kernel_rfl) (by simp; omega) ?_
  refine Good.run (by kernel_rfl) (stop := 1000) 1000 _ ?_
  refine Good.ask (ldS 43 ⟨gW, 0, none⟩) (.slice A n n) (by kernel_rfl) (fun w1 hw h => run_ldS (by kernel_rfl) (PB.bw h).one) ?_
  refine Good.run (by kernel_rfl) (stop := 1000) 1000 _ ?_
  refine Good.ask (ldS 3 ⟨gA, 0, none⟩) (.int .i64 i) (by kernel_rfl) (fun w1 hw h => run_ldS (by kernel_rfl) (PB.ba h).one) ?_
  refine Good.run (by kernel_rfl) (stop := 1000) 1000 _ ?_
  refine Good.ask (idxS 43 (.slice A n n) i) (.pointer (some ((⟨b0, 0, none⟩ : Addr).add i))) (by kernel_rfl) (fun w1 hw h => by rw [hAd]; exact run_idxS (elem := 9) (by kernel_rfl) (by kernel_rfl) hlt) ?_
  refine Good.run (by kernel_rfl) (stop := 1000) 1000 _ ?_
  refine Good.ask (ldS 9 ((⟨b0, 0, none⟩ : Addr).add i)) (strOf x) (by kernel_rfl) (fun w1 hw h => run_ldS (by kernel_rfl) (by obtain ⟨ad2, h3, h4⟩ := (PB.st h).2 i x hx; rw [hAd] at h3; cases h3; exact h4)) ?_
  refine Good.run (by kernel_rfl) (stop := 1000) 1000 _ ?_
  rcases verb_cases x with ⟨_, hv⟩ | ⟨_, hv⟩ | ⟨_, hv⟩ | ⟨_, hv⟩ | ⟨_, hv⟩ | ⟨_, hv⟩
  ·
    refine Good.callv (fun w1 hw h => verb_m hv) (by kernel_rfl) (fun u => ?_)
    refine Good.run (by kernel_rfl) (stop := 6) 1000 _ ?_
    refine Good.make (allS 41) (ptr) (fun g u => BoxAt u g [.int .i64 0, .int .i64 0, .int .i64 0, .int .i64 0, .int .i64 0, .int .i64 0, .int .i64 0] ∧ w.heap.size ≤ g ∧ g ∉ gW :: gA :: gE :: (bl A ++ bl y)) (by kernel_rfl) (fun w1 hw h => make_allF (z := Sg.val ⟨0, 0, 0, 0, 0, 0, 0⟩) (by kernel_rfl) hw.size (PB.lts h.1 (hAlt _ h.1))) (fun gX => ?_)
    refine Good.run (by kernel_rfl) (stop := 1000) 1000 _ ?_
    refine Good.pure_ (p := w.heap.size ≤ gX ∧ gX ∉ gW :: gA :: gE :: (bl A ++ bl y)) (fun u hu h => h.2.2) (by kernel_rfl) (fun hp => ?_)
    obtain ⟨lx, hX⟩ := hp
    have hX2 := hX
    simp only [List.mem_cons, List.mem_append, not_or] at hX2
    obtain ⟨xw, xa, xe, xs, xy⟩ := hX2
    refine Good.mutSt (L := [gX]) (G := fun u => BoxAt u gX [.int .i64 1, .int .i64 0, .int .i64 0, .int .i64 0, .int .i64 0, .int .i64 0, .int .i64 0]) (Φ' := fun u => PB w.heap.size gW gA gE A n n ws y m yc acc (i) (0) u ∧ BoxAt u gX [.int .i64 1, .int .i64 0, .int .i64 0, .int .i64 0, .int .i64 0, .int .i64 0, .int .i64 0]) (stS 41 ⟨gX, 0, none⟩ (Sg.val ⟨1, 0, 0, 0, 0, 0, 0⟩)) (fun w1 hw h => h.2.1.store (by kernel_rfl) rfl (by intro u hu; simp [Value.cells] at hu; rcases hu with rfl | rfl <;> rfl)) (fun u h b hb => by obtain rfl : b = gX := by { simpa using hb }; exact ⟨lx, h.2.1.own⟩) (fun wa u e1 e2 h hG => ⟨PB.mutX h.1.1 hX e2, hG⟩) (by kernel_rfl) (by kernel_rfl) ?_
    refine Good.run (by kernel_rfl) (stop := 1000) 1000 _ ?_
    refine Good.ask (ldS 3 ⟨gX, 0, none⟩) (.int .i64 1) (by kernel_rfl) (fun w1 hw h => run_ldS (by kernel_rfl) (h.2.cell)) ?_
    refine Good.run (by kernel_rfl) (stop := 1000) 1000 _ ?_
    refine Good.cond false (by kernel_rfl) ?_
    refine Good.run (by kernel_rfl) (stop := 1000) 1000 _ ?_
    refine Good.ask (ldS 3 ⟨gA, 0, none⟩) (.int .i64 i) (by kernel_rfl) (fun w1 hw h => run_ldS (by kernel_rfl) (PB.ba h.1).one) ?_
    refine Good.run (by kernel_rfl) (stop := 1000) 1000 _ ?_
    refine Good.slot 41 (.int .i64 (IntKind.i64.wrap ((i : Int) + 1))) (.int .i64 ((i + 1 : Nat) : Int)) (by kernel_rfl) (by rw [wrap_succ hlt (by omega)]) ?_
    refine Good.mutSt (L := [gA]) (G := fun u => BoxAt u gA [.int .i64 ((i + 1 : Nat) : Int)]) (Φ' := fun u => PB w.heap.size gW gA gE A n n ws y m yc acc (i + 1) (0) u ∧ BoxAt u gX [.int .i64 1, .int .i64 0, .int .i64 0, .int .i64 0, .int .i64 0, .int .i64 0, .int .i64 0]) (stS 3 ⟨gA, 0, none⟩ (.int .i64 ((i + 1 : Nat) : Int))) (fun w1 hw h => (PB.ba h.1).store (by kernel_rfl) rfl (by intro u hu; simp [Value.cells] at hu; subst hu; rfl)) (fun u h b hb => by obtain rfl : b = gA := by { simpa using hb }; exact ⟨la, (PB.ba h.1).own⟩) (fun wa u e1 e2 h hG => ⟨PB.mutA h.1 D e2 hG, h.2.left e2 (by simp [xa])⟩) (by kernel_rfl) (by kernel_rfl) ?_
    refine Good.run (by kernel_rfl) (stop := 1000) 1000 _ ?_
    refine Good.make (litS 53 3 #[(0, .pointer (some ⟨gX, 1, none⟩)), (1, .pointer (some ⟨gX, 3, none⟩)), (2, .pointer (some ⟨gX, 5, none⟩))]) (litV 3) (fun g u => litG 52 #[.pointer (some ⟨gX, 1, none⟩), .pointer (some ⟨gX, 3, none⟩), .pointer (some ⟨gX, 5, none⟩)] g u ∧ g ∉ [gA, gE, gX]) (by kernel_rfl) (fun w1 hw h => make_litF (by kernel_rfl) (by intro b hb; simp only [List.mem_cons, List.not_mem_nil, or_false] at hb; rcases hb with rfl | rfl | rfl; exact (PB.ba h.1).lt; exact (PB.be h.1).lt; exact h.2.lt)) (fun ga => ?_)
    refine Good.run (by kernel_rfl) (stop := 1000) 1000 _ ?_
    refine Good.pure_ (p := ga ∉ [gA, gE, gX]) (fun u hu h => h.2.2) (by kernel_rfl) (fun hga => ?_)
    have hga2 := hga
    simp only [List.mem_cons, List.not_mem_nil, or_false, not_or] at hga2
    obtain ⟨gaA, gaE, gaX⟩ := hga2
    refine Good.ask (ldS 3 ⟨gX, 0, none⟩) (.int .i64 1) (by kernel_rfl) (fun w1 hw h => run_ldS (by kernel_rfl) (h.1.2.cell)) ?_
    refine Good.run (by kernel_rfl) (stop := 1000) 1000 _ ?_
    refine Good.callv (fun w1 hw h => points_m (v := 1) (r := 1) (by decide) rfl) (by kernel_rfl) (fun u => ?_)
    refine Good.run (by kernel_rfl) (stop := 4) 1000 _ ?_
    refine Good.ask (slH 53 (.slice (some ⟨ga, 0, none⟩) 3 3) (1 : Nat)) (.slice (some ⟨ga, 0, none⟩) 1 3) (by kernel_rfl) (fun w1 hw h => run_slH (e := 52) (by kernel_rfl) (by kernel_rfl) (by kernel_rfl) (by decide)) ?_
    refine Good.run (by kernel_rfl) (stop := 1000) 1000 _ ?_
    refine Good.un (by kernel_rfl) ?_
    refine Good.run (by kernel_rfl) (stop := 1000) 1000 _ ?_
    refine Good.cond true (by kernel_rfl) ?_
    refine Good.run (by kernel_rfl) (stop := 1000) 1000 _ ?_
    refine Good.ask (idxS 53 (.slice (some ⟨ga, 0, none⟩) 1 3) (0 : Nat)) (.pointer (some ⟨ga, 0 * 1, none⟩)) (by kernel_rfl) (fun w1 hw h => run_idxN (elem := 52) (by kernel_rfl) (by kernel_rfl) (by decide)) ?_
    refine Good.run (by kernel_rfl) (stop := 1000) 1000 _ ?_
    refine Good.ask (ldS 52 ⟨ga, 0 * 1, none⟩) (.pointer (some ⟨gX, 1, none⟩)) (by kernel_rfl) (fun w1 hw h => run_ldS (by kernel_rfl) (lit_cell h.1.2.1 rfl)) ?_
    refine Good.run (by kernel_rfl) (stop := 1000) 1000 _ ?_
    refine Good.make (litS 55 2 #[(0, .pointer (some ⟨gX, 1, none⟩)), (1, .pointer (some ⟨gX, 2, none⟩))]) (litV 2) (fun g u => litG 54 #[.pointer (some ⟨gX, 1, none⟩), .pointer (some ⟨gX, 2, none⟩)] g u ∧ g ∉ [gA, gE, gX]) (by kernel_rfl) (fun w1 hw h => make_litF (by kernel_rfl) (by intro b hb; simp only [List.mem_cons, List.not_mem_nil, or_false] at hb; rcases hb with rfl | rfl | rfl; exact (PB.ba h.1.1.1).lt; exact (PB.be h.1.1.1).lt; exact BoxAt.lt h.1.1.2)) (fun gb0 => ?_)
    refine Good.run (by kernel_rfl) (stop := 1000) 1000 _ ?_
    refine Good.pure_ (p := gb0 ∉ [gA, gE, gX]) (fun u hu h => h.2.2) (by kernel_rfl) (fun hgb0 => ?_)
    simp only [List.mem_cons, List.not_mem_nil, or_false, not_or] at hgb0
    refine Good.un (by kernel_rfl) ?_
    refine Good.run (by kernel_rfl) (stop := 1000) 1000 _ ?_
    refine Good.cond true (by kernel_rfl) ?_
    refine Good.run (by kernel_rfl) (stop := 1000) 1000 _ ?_
    refine Good.ask (idxS 55 (.slice (some ⟨gb0, 0, none⟩) 2 2) (0 : Nat)) (.pointer (some ⟨gb0, 0 * 1, none⟩)) (by kernel_rfl) (fun w1 hw h => run_idxN (elem := 54) (by kernel_rfl) (by kernel_rfl) (by decide)) ?_
    refine Good.run (by kernel_rfl) (stop := 1000) 1000 _ ?_
    refine Good.ask (ldS 54 ⟨gb0, 0 * 1, none⟩) (.pointer (some ⟨gX, 1, none⟩)) (by kernel_rfl) (fun w1 hw h => run_ldS (by kernel_rfl) (lit_cell h.2.1 rfl)) ?_
    refine Good.run (by kernel_rfl) (stop := 1000) 1000 _ ?_
    by_cases e0a : numE ws (i + 1) = 0
    case neg =>
      have hf : failAt ws (2 * (namedI 1).toNat) (i + 1) = some (i + 1) := by
        show failAt ws 2 (i + 1) = _
        rw [failAt, if_neg e0a]
      rw [pw_fail hx hv (by decide) hf] at hR
      obtain ⟨rfl, rfl, rfl⟩ : [] = out ∧ i + 1 = at_ ∧ numE ws (i + 1) = e := by cases hR; exact ⟨rfl, rfl, rfl⟩
      refine Good.mut (L := [gA, gE]) (Φ' := fun _ u => PB w.heap.size gW gA gE A n n ws y m yc acc (i + 1) (numE ws (i + 1)) u ∧ BoxAt u gX [.int .i64 1, .int .i64 0, .int .i64 0, .int .i64 0, .int .i64 0, .int .i64 0, .int .i64 0] ∧ litG 52 #[.pointer (some ⟨gX, 1, none⟩), .pointer (some ⟨gX, 3, none⟩), .pointer (some ⟨gX, 5, none⟩)] ga u ∧ litG 54 #[.pointer (some ⟨gX, 1, none⟩), .pointer (some ⟨gX, 2, none⟩)] gb0 u) (fun w1 hw h => next_v (i' := i + 1) (e' := numE ws (i + 1)) hw h.1.1.1.1 D (show i + 1 ≤ n from by omega) (by omega) hmem (if_neg e0a) rfl rfl) (fun u h => PB.own h.1.1.1.1 D) (fun _ wa u e1 e2 h hG => ⟨PB.mutAE h.1.1.1.1 D e2 hG, BoxAt.left h.1.1.1.2 e2 (by simp [xa, xe]), lit_left h.1.1.2.1 e2 (by simp [gaA, gaE]), lit_left h.2.1 e2 (by simp [hgb0.1, hgb0.2.1])⟩) (by kernel_rfl) (by kernel_rfl) (fun _ => ?_)
      refine Good.run (by kernel_rfl) (stop := 1000) 1000 _ ?_
      refine Good.mutSt (L := [gX]) (G := fun u => BoxAt u gX [.int .i64 1, .int .i64 (numV ws (i + 1)), .int .i64 0, .int .i64 0, .int .i64 0, .int .i64 0, .int .i64 0]) (Φ' := fun u => PB w.heap.size gW gA gE A n n ws y m yc acc (i + 1) (numE ws (i + 1)) u ∧ BoxAt u gX [.int .i64 1, .int .i64 (numV ws (i + 1)), .int .i64 0, .int .i64 0, .int .i64 0, .int .i64 0, .int .i64 0] ∧ litG 52 #[.pointer (some ⟨gX, 1, none⟩), .pointer (some ⟨gX, 3, none⟩), .pointer (some ⟨gX, 5, none⟩)] ga u ∧ litG 54 #[.pointer (some ⟨gX, 1, none⟩), .pointer (some ⟨gX, 2, none⟩)] gb0 u) (stS 3 ⟨gX, 1, none⟩ (.int .i64 (numV ws (i + 1)))) (fun w1 hw h => h.2.1.store1 (by kernel_rfl) rfl (by simp) rfl) (fun u h b hb => by obtain rfl : b = gX := by { simpa using hb }; exact ⟨lx, h.2.1.own⟩) (fun wa u e1 e2 h hG => ⟨PB.mutX h.1 hX e2, hG, lit_left h.2.2.1 e2 (by simp [gaX]), lit_left h.2.2.2 e2 (by simp [hgb0.2.2])⟩) (by kernel_rfl) (by kernel_rfl) ?_
      refine Good.run (by kernel_rfl) (stop := 1000) 1000 _ ?_
      refine Good.ask (ldS 24 ⟨gE, 0, none⟩) (.int .i64 (numE ws (i + 1))) (by kernel_rfl) (fun w1 hw h => run_ldS (by kernel_rfl) (PB.be h.1).one) ?_
      refine Good.run (by kernel_rfl) (stop := 1000) 1000 _ ?_
      refine Good.condr ((numE ws (i + 1) != 0)) true (by kernel_rfl) (by simpa using e0a) ?_
      refine Good.run (by kernel_rfl) (stop := 1000) 1000 _ ?_
      refine Good.askAt 0 (ldS 3 ⟨gA, 0, none⟩) (.int .i64 ((i + 1 : Nat) : Int)) (by kernel_rfl) (fun w1 hw h => run_ldS (by kernel_rfl) (PB.ba h.1).one) ?_
      refine Good.run (by kernel_rfl) (stop := 1000) 1000 _ ?_
      refine Good.askAt 1 (ldS 24 ⟨gE, 0, none⟩) (.int .i64 (numE ws (i + 1))) (by kernel_rfl) (fun w1 hw h => run_ldS (by kernel_rfl) (PB.be h.1).one) ?_
      refine Good.run (by kernel_rfl) (stop := 1000) 1000 _ ?_
      refine Good.leave (by kernel_rfl) ?_
      refine Good.run (by kernel_rfl) (stop := 1000) 1000 _ ?_
      refine Good.ret (v := .tuple #[.slice none 0 0, .int .i64 ((i + 1 : Nat) : Int), .int .i64 (numE ws (i + 1))]) (by kernel_rfl) (fun w1 hw h => ⟨(none, 0), rfl, hw, fun _ _ _ => ⟨rfl, fun k s hk => by simp at hk⟩⟩)
    have hlt00 : i + 1 < n := by
      rcases Nat.lt_or_ge (i + 1) n with h1 | h1
      · exact h1
      · rw [numE, List.getElem?_eq_none (by omega)] at e0a; exact absurd e0a (by decide)
    refine Good.mut (L := [gA, gE]) (Φ' := fun _ u => PB w.heap.size gW gA gE A n n ws y m yc acc (i + 1 + 1) (0) u ∧ BoxAt u gX [.int .i64 1, .int .i64 0, .int .i64 0, .int .i64 0, .int .i64 0, .int .i64 0, .int .i64 0] ∧ litG 52 #[.pointer (some ⟨gX, 1, none⟩), .pointer (some ⟨gX, 3, none⟩), .pointer (some ⟨gX, 5, none⟩)] ga u ∧ litG 54 #[.pointer (some ⟨gX, 1, none⟩), .pointer (some ⟨gX, 2, none⟩)] gb0 u) (fun w1 hw h => next_v (i' := i + 1 + 1) (e' := 0) hw h.1.1.1.1 D (show i + 1 ≤ n from by omega) (by omega) hmem (if_pos e0a) e0a rfl) (fun u h => PB.own h.1.1.1.1 D) (fun _ wa u e1 e2 h hG => ⟨PB.mutAE h.1.1.1.1 D e2 hG, BoxAt.left h.1.1.1.2 e2 (by simp [xa, xe]), lit_left h.1.1.2.1 e2 (by simp [gaA, gaE]), lit_left h.2.1 e2 (by simp [hgb0.1, hgb0.2.1])⟩) (by kernel_rfl) (by kernel_rfl) (fun _ => ?_)
    refine Good.run (by kernel_rfl) (stop := 1000) 1000 _ ?_
    refine Good.mutSt (L := [gX]) (G := fun u => BoxAt u gX [.int .i64 1, .int .i64 (numV ws (i + 1)), .int .i64 0, .int .i64 0, .int .i64 0, .int .i64 0, .int .i64 0]) (Φ' := fun u => PB w.heap.size gW gA gE A n n ws y m yc acc (i + 1 + 1) (0) u ∧ BoxAt u gX [.int .i64 1, .int .i64 (numV ws (i + 1)), .int .i64 0, .int .i64 0, .int .i64 0, .int .i64 0, .int .i64 0] ∧ litG 52 #[.pointer (some ⟨gX, 1, none⟩), .pointer (some ⟨gX, 3, none⟩), .pointer (some ⟨gX, 5, none⟩)] ga u ∧ litG 54 #[.pointer (some ⟨gX, 1, none⟩), .pointer (some ⟨gX, 2, none⟩)] gb0 u) (stS 3 ⟨gX, 1, none⟩ (.int .i64 (numV ws (i + 1)))) (fun w1 hw h => h.2.1.store1 (by kernel_rfl) rfl (by simp) rfl) (fun u h b hb => by obtain rfl : b = gX := by { simpa using hb }; exact ⟨lx, h.2.1.own⟩) (fun wa u e1 e2 h hG => ⟨PB.mutX h.1 hX e2, hG, lit_left h.2.2.1 e2 (by simp [gaX]), lit_left h.2.2.2 e2 (by simp [hgb0.2.2])⟩) (by kernel_rfl) (by kernel_rfl) ?_
    refine Good.run (by kernel_rfl) (stop := 1000) 1000 _ ?_
    refine Good.ask (ldS 24 ⟨gE, 0, none⟩) (.int .i64 (0)) (by kernel_rfl) (fun w1 hw h => run_ldS (by kernel_rfl) (PB.be h.1).one) ?_
    refine Good.run (by kernel_rfl) (stop := 1000) 1000 _ ?_
    refine Good.cond false (by kernel_rfl) ?_
    refine Good.run (by kernel_rfl) (stop := 1000) 1000 _ ?_
    refine Good.cond true (by kernel_rfl) ?_
    refine Good.run (by kernel_rfl) (stop := 1000) 1000 _ ?_
    refine Good.ask (idxS 55 (.slice (some ⟨gb0, 0, none⟩) 2 2) (1 : Nat)) (.pointer (some ⟨gb0, 1 * 1, none⟩)) (by kernel_rfl) (fun w1 hw h => run_idxN (elem := 54) (by kernel_rfl) (by kernel_rfl) (by decide)) ?_
    refine Good.run (by kernel_rfl) (stop := 1000) 1000 _ ?_
    refine Good.ask (ldS 54 ⟨gb0, 1 * 1, none⟩) (.pointer (some ⟨gX, 2, none⟩)) (by kernel_rfl) (fun w1 hw h => run_ldS (by kernel_rfl) (lit_cell h.2.2.2 rfl)) ?_
    refine Good.run (by kernel_rfl) (stop := 1000) 1000 _ ?_
    by_cases e0b : numE ws (i + 1 + 1) = 0
    case neg =>
      have hf : failAt ws (2 * (namedI 1).toNat) (i + 1) = some (i + 1 + 1) := by
        show failAt ws 2 (i + 1) = _
        rw [failAt, if_pos e0a, failAt, if_neg e0b]
      rw [pw_fail hx hv (by decide) hf] at hR
      obtain ⟨rfl, rfl, rfl⟩ : [] = out ∧ i + 1 + 1 = at_ ∧ numE ws (i + 1 + 1) = e := by cases hR; exact ⟨rfl, rfl, rfl⟩
      refine Good.mut (L := [gA, gE]) (Φ' := fun _ u => PB w.heap.size gW gA gE A n n ws y m yc acc (i + 1 + 1) (numE ws (i + 1 + 1)) u ∧ BoxAt u gX [.int .i64 1, .int .i64 (numV ws (i + 1)), .int .i64 0, .int .i64 0, .int .i64 0, .int .i64 0, .int .i64 0] ∧ litG 52 #[.pointer (some ⟨gX, 1, none⟩), .pointer (some ⟨gX, 3, none⟩), .pointer (some ⟨gX, 5, none⟩)] ga u ∧ litG 54 #[.pointer (some ⟨gX, 1, none⟩), .pointer (some ⟨gX, 2, none⟩)] gb0 u) (fun w1 hw h => next_v (i' := i + 1 + 1) (e' := numE ws (i + 1 + 1)) hw h.1 D (show i + 1 + 1 ≤ n from by omega) (by omega) hmem (if_neg e0b) rfl rfl) (fun u h => PB.own h.1 D) (fun _ wa u e1 e2 h hG => ⟨PB.mutAE h.1 D e2 hG, BoxAt.left h.2.1 e2 (by simp [xa, xe]), lit_left h.2.2.1 e2 (by simp [gaA, gaE]), lit_left h.2.2.2 e2 (by simp [hgb0.1, hgb0.2.1])⟩) (by kernel_rfl) (by kernel_rfl) (fun _ => ?_)
      refine Good.run (by kernel_rfl) (stop := 1000) 1000 _ ?_
      refine Good.mutSt (L := [gX]) (G := fun u => BoxAt u gX [.int .i64 1, .int .i64 (numV ws (i + 1)), .int .i64 (numV ws (i + 1 + 1)), .int .i64 0, .int .i64 0, .int .i64 0, .int .i64 0]) (Φ' := fun u => PB w.heap.size gW gA gE A n n ws y m yc acc (i + 1 + 1) (numE ws (i + 1 + 1)) u ∧ BoxAt u gX [.int .i64 1, .int .i64 (numV ws (i + 1)), .int .i64 (numV ws (i + 1 + 1)), .int .i64 0, .int .i64 0, .int .i64 0, .int .i64 0] ∧ litG 52 #[.pointer (some ⟨gX, 1, none⟩), .pointer (some ⟨gX, 3, none⟩), .pointer (some ⟨gX, 5, none⟩)] ga u ∧ litG 54 #[.pointer (some ⟨gX, 1, none⟩), .pointer (some ⟨gX, 2, none⟩)] gb0 u) (stS 3 ⟨gX, 2, none⟩ (.int .i64 (numV ws (i + 1 + 1)))) (fun w1 hw h => h.2.1.store1 (by kernel_rfl) rfl (by simp) rfl) (fun u h b hb => by obtain rfl : b = gX := by { simpa using hb }; exact ⟨lx, h.2.1.own⟩) (fun wa u e1 e2 h hG => ⟨PB.mutX h.1 hX e2, hG, lit_left h.2.2.1 e2 (by simp [gaX]), lit_left h.2.2.2 e2 (by simp [hgb0.2.2])⟩) (by kernel_rfl) (by kernel_rfl) ?_
      refine Good.run (by kernel_rfl) (stop := 1000) 1000 _ ?_
      refine Good.ask (ldS 24 ⟨gE, 0, none⟩) (.int .i64 (numE ws (i + 1 + 1))) (by kernel_rfl) (fun w1 hw h => run_ldS (by kernel_rfl) (PB.be h.1).one) ?_
      refine Good.run (by kernel_rfl) (stop := 1000) 1000 _ ?_
      refine Good.condr ((numE ws (i + 1 + 1) != 0)) true (by kernel_rfl) (by simpa using e0b) ?_
      refine Good.run (by kernel_rfl) (stop := 1000) 1000 _ ?_
      refine Good.askAt 0 (ldS 3 ⟨gA, 0, none⟩) (.int .i64 ((i + 1 + 1 : Nat) : Int)) (by kernel_rfl) (fun w1 hw h => run_ldS (by kernel_rfl) (PB.ba h.1).one) ?_
      refine Good.run (by kernel_rfl) (stop := 1000) 1000 _ ?_
      refine Good.askAt 1 (ldS 24 ⟨gE, 0, none⟩) (.int .i64 (numE ws (i + 1 + 1))) (by kernel_rfl) (fun w1 hw h => run_ldS (by kernel_rfl) (PB.be h.1).one) ?_
      refine Good.run (by kernel_rfl) (stop := 1000) 1000 _ ?_
      refine Good.leave (by kernel_rfl) ?_
      refine Good.run (by kernel_rfl) (stop := 1000) 1000 _ ?_
      refine Good.ret (v := .tuple #[.slice none 0 0, .int .i64 ((i + 1 + 1 : Nat) : Int), .int .i64 (numE ws (i + 1 + 1))]) (by kernel_rfl) (fun w1 hw h => ⟨(none, 0), rfl, hw, fun _ _ _ => ⟨rfl, fun k s hk => by simp at hk⟩⟩)
    have hlt01 : i + 1 + 1 < n := by
      rcases Nat.lt_or_ge (i + 1 + 1) n with h1 | h1
      · exact h1
      · rw [numE, List.getElem?_eq_none (by omega)] at e0b; exact absurd e0b (by decide)
    refine Good.mut (L := [gA, gE]) (Φ' := fun _ u => PB w.heap.size gW gA gE A n n ws y m yc acc (i + 1 + 1 + 1) (0) u ∧ BoxAt u gX [.int .i64 1, .int .i64 (numV ws (i + 1)), .int .i64 0, .int .i64 0, .int .i64 0, .int .i64 0, .int .i64 0] ∧ litG 52 #[.pointer (some ⟨gX, 1, none⟩), .pointer (some ⟨gX, 3, none⟩), .pointer (some ⟨gX, 5, none⟩)] ga u ∧ litG 54 #[.pointer (some ⟨gX, 1, none⟩), .pointer (some ⟨gX, 2, none⟩)] gb0 u) (fun w1 hw h => next_v (i' := i + 1 + 1 + 1) (e' := 0) hw h.1 D (show i + 1 + 1 ≤ n from by omega) (by omega) hmem (if_pos e0b) e0b rfl) (fun u h => PB.own h.1 D) (fun _ wa u e1 e2 h hG => ⟨PB.mutAE h.1 D e2 hG, BoxAt.left h.2.1 e2 (by simp [xa, xe]), lit_left h.2.2.1 e2 (by simp [gaA, gaE]), lit_left h.2.2.2 e2 (by simp [hgb0.1, hgb0.2.1])⟩) (by kernel_rfl) (by kernel_rfl) (fun _ => ?_)
    refine Good.run (by kernel_rfl) (stop := 1000) 1000 _ ?_
    refine Good.mutSt (L := [gX]) (G := fun u => BoxAt u gX [.int .i64 1, .int .i64 (numV ws (i + 1)), .int .i64 (numV ws (i + 1 + 1)), .int .i64 0, .int .i64 0, .int .i64 0, .int .i64 0]) (Φ' := fun u => PB w.heap.size gW gA gE A n n ws y m yc acc (i + 1 + 1 + 1) (0) u ∧ BoxAt u gX [.int .i64 1, .int .i64 (numV ws (i + 1)), .int .i64 (numV ws (i + 1 + 1)), .int .i64 0, .int .i64 0, .int .i64 0, .int .i64 0] ∧ litG 52 #[.pointer (some ⟨gX, 1, none⟩), .pointer (some ⟨gX, 3, none⟩), .pointer (some ⟨gX, 5, none⟩)] ga u ∧ litG 54 #[.pointer (some ⟨gX, 1, none⟩), .pointer (some ⟨gX, 2, none⟩)] gb0 u) (stS 3 ⟨gX, 2, none⟩ (.int .i64 (numV ws (i + 1 + 1)))) (fun w1 hw h => h.2.1.store1 (by kernel_rfl) rfl (by simp) rfl) (fun u h b hb => by obtain rfl : b = gX := by { simpa using hb }; exact ⟨lx, h.2.1.own⟩) (fun wa u e1 e2 h hG => ⟨PB.mutX h.1 hX e2, hG, lit_left h.2.2.1 e2 (by simp [gaX]), lit_left h.2.2.2 e2 (by simp [hgb0.2.2])⟩) (by kernel_rfl) (by kernel_rfl) ?_
    refine Good.run (by kernel_rfl) (stop := 1000) 1000 _ ?_
    refine Good.ask (ldS 24 ⟨gE, 0, none⟩) (.int .i64 (0)) (by kernel_rfl) (fun w1 hw h => run_ldS (by kernel_rfl) (PB.be h.1).one) ?_
    refine Good.run (by kernel_rfl) (stop := 1000) 1000 _ ?_
    refine Good.cond false (by kernel_rfl) ?_
    refine Good.run (by kernel_rfl) (stop := 1000) 1000 _ ?_
    refine Good.cond false (by kernel_rfl) ?_
    refine Good.run (by kernel_rfl) (stop := 1000) 1000 _ ?_
    refine Good.cond false (by kernel_rfl) ?_
    refine Good.run (by kernel_rfl) (stop := 1000) 1000 _ ?_
    have hf : failAt ws (2 * (namedI 1).toNat) (i + 1) = none := by
      show failAt ws 2 (i + 1) = _
      rw [failAt, if_pos e0a, failAt, if_pos e0b, failAt]
    rw [pw_step hx hv (by decide) hf] at hR
    refine Good.ask (ldS 41 ⟨gX, 0, none⟩) (Sg.val ⟨1, numV ws (i + 1), numV ws (i + 1 + 1), 0, 0, 0, 0⟩) (by kernel_rfl) (fun w1 hw h => run_ldN (vs := Sg.cl ⟨1, numV ws (i + 1), numV ws (i + 1 + 1), 0, 0, 0, 0⟩) (by kernel_rfl) (by kernel_rfl) (BoxAt.range h.2.1)) ?_
    refine Good.run (by kernel_rfl) (stop := 1000) 1000 _ ?_
    refine Good.make (litS 22 1 #[(0, Sg.val ⟨1, numV ws (i + 1), numV ws (i + 1 + 1), 0, 0, 0, 0⟩)]) (litV 1) (litG 41 (Sg.cl ⟨1, numV ws (i + 1), numV ws (i + 1 + 1), 0, 0, 0, 0⟩).toArray) (by kernel_rfl) (fun w1 hw h => make_lit (by kernel_rfl)) (fun gb => ?_)
    refine Good.run (by kernel_rfl) (stop := 3) 1000 _ ?_
    refine Good.mutOp (L := bl y) (val := fun (z : Option Addr × Nat) => .slice z.1 (m + 1) z.2) (Φ' := fun (z : Option Addr × Nat) u => PB w.heap.size gW gA gE A n n ws z.1 (m + 1) z.2 (acc ++ [Sg.mk 1 (numV ws (i + 1)) (numV ws (i + 1 + 1)) 0 0 0 0]) (i + 1 + 1 + 1) 0 u) (G := fun (z : Option Addr × Nat) vv => OwnR vv w.heap.size 41 7 z.1 (m + 1) z.2 (gv (acc ++ [Sg.mk 1 (numV ws (i + 1)) (numV ws (i + 1 + 1)) 0 0 0 0]))) (appS 22 22 (.slice y m yc) (litV 1 gb)) (fun w1 hw h => app_seg (PB.ow h.1.1) hw.size h.2 (show m < 1000000 from by omega)) (fun w1 h => fun b hb => ⟨((PB.ow h.1.1).lt b hb).1, ((PB.ow h.1.1).blk b hb).2⟩) (fun z wa w1 e1 e2 h hG => PB.app h.1.1 D e2 hG) (by kernel_rfl) (by kernel_rfl) (fun z => ?_)
    refine Good.run (by kernel_rfl) (stop := 1000) 1000 _ ?_
    refine Good.next (⟨((i + 1 + 1 + 1, m + 1, acc ++ [Sg.mk 1 (numV ws (i + 1)) (numV ws (i + 1 + 1)) 0 0 0 0]), z), by show i + 1 + 1 + 1 ≤ n; omega, by show m + 1 ≤ i + 1 + 1 + 1; omega, by show (acc ++ _).length = m + 1; rw [List.length_append, hacc]; rfl, fun h => absurd (show m + 1 = 0 from h) (by omega), hR⟩) (by kernel_rfl) (by show n - (i + 1 + 1 + 1) < n - i; omega) ⟨by kernel_rfl, by kernel_rfl, by kernel_rfl⟩ (fun u h => h)
  ·
    refine Good.callv (fun w1 hw h => verb_m hv) (by kernel_rfl) (fun u => ?_)
    refine Good.run (by kernel_rfl) (stop := 6) 1000 _ ?_
    refine Good.make (allS 41) (ptr) (fun g u => BoxAt u g [.int .i64 0, .int .i64 0, .int .i64 0, .int .i64 0, .int .i64 0, .int .i64 0, .int .i64 0] ∧ w.heap.size ≤ g ∧ g ∉ gW :: gA :: gE :: (bl A ++ bl y)) (by kernel_rfl) (fun w1 hw h => make_allF (z := Sg.val ⟨0, 0, 0, 0, 0, 0, 0⟩) (by kernel_rfl) hw.size (PB.lts h.1 (hAlt _ h.1))) (fun gX => ?_)
    refine Good.run (by kernel_rfl) (stop := 1000) 1000 _ ?_
    refine Good.pure_ (p := w.heap.size ≤ gX ∧ gX ∉ gW :: gA :: gE :: (bl A ++ bl y)) (fun u hu h => h.2.2) (by kernel_rfl) (fun hp => ?_)
    obtain ⟨lx, hX⟩ := hp
    have hX2 := hX
    simp only [List.mem_cons, List.mem_append, not_or] at hX2
    obtain ⟨xw, xa, xe, xs, xy⟩ := hX2
    refine Good.mutSt (L := [gX]) (G := fun u => BoxAt u gX [.int .i64 2, .int .i64 0, .int .i64 0, .int .i64 0, .int .i64 0, .int .i64 0, .int .i64 0]) (Φ' := fun u => PB w.heap.size gW gA gE A n n ws y m yc acc (i) (0) u ∧ BoxAt u gX [.int .i64 2, .int .i64 0, .int .i64 0, .int .i64 0, .int .i64 0, .int .i64 0, .int .i64 0]) (stS 41 ⟨gX, 0, none⟩ (Sg.val ⟨2, 0, 0, 0, 0, 0, 0⟩)) (fun w1 hw h => h.2.1.store (by kernel_rfl) rfl (by intro u hu; simp [Value.cells] at hu; rcases hu with rfl | rfl <;> rfl)) (fun u h b hb => by obtain rfl : b = gX := by { simpa using hb }; exact ⟨lx, h.2.1.own⟩) (fun wa u e1 e2 h hG => ⟨PB.mutX h.1.1 hX e2, hG⟩) (by kernel_rfl) (by kernel_rfl) ?_
    refine Good.run (by kernel_rfl) (stop := 1000) 1000 _ ?_
    refine Good.ask (ldS 3 ⟨gX, 0, none⟩) (.int .i64 2) (by kernel_rfl) (fun w1 hw h => run_ldS (by kernel_rfl) (h.2.cell)) ?_
    refine Good.run (by kernel_rfl) (stop := 1000) 1000 _ ?_
    refine Good.cond false (by kernel_rfl) ?_
    refine Good.run (by kernel_rfl) (stop := 1000) 1000 _ ?_
    refine Good.ask (ldS 3 ⟨gA, 0, none⟩) (.int .i64 i) (by kernel_rfl) (fun w1 hw h => run_ldS (by kernel_rfl) (PB.ba h.1).one) ?_
    refine Good.run (by kernel_rfl) (stop := 1000) 1000 _ ?_
    refine Good.slot 41 (.int .i64 (IntKind.i64.wrap ((i : Int) + 1))) (.int .i64 ((i + 1 : Nat) : Int)) (by kernel_rfl) (by rw [wrap_succ hlt (by omega)]) ?_
    refine Good.mutSt (L := [gA]) (G := fun u => BoxAt u gA [.int .i64 ((i + 1 : Nat) : Int)]) (Φ' := fun u => PB w.heap.size gW gA gE A n n ws y m yc acc (i + 1) (0) u ∧ BoxAt u gX [.int .i64 2, .int .i64 0, .int .i64 0, .int .i64 0, .int .i64 0, .int .i64 0, .int .i64 0]) (stS 3 ⟨gA, 0, none⟩ (.int .i64 ((i + 1 : Nat) : Int))) (fun w1 hw h => (PB.ba h.1).store (by kernel_rfl) rfl (by intro u hu; simp [Value.cells] at hu; subst hu; rfl)) (fun u h b hb => by obtain rfl : b = gA := by { simpa using hb }; exact ⟨la, (PB.ba h.1).own⟩) (fun wa u e1 e2 h hG => ⟨PB.mutA h.1 D e2 hG, h.2.left e2 (by simp [xa])⟩) (by kernel_rfl) (by kernel_rfl) ?_
    refine Good.run (by kernel_rfl) (stop := 1000) 1000 _ ?_
    refine Good.make (litS 53 3 #[(0, .pointer (some ⟨gX, 1, none⟩)), (1, .pointer (some ⟨gX, 3, none⟩)), (2, .pointer (some ⟨gX, 5, none⟩))]) (litV 3) (fun g u => litG 52 #[.pointer (some ⟨gX, 1, none⟩), .pointer (some ⟨gX, 3, none⟩), .pointer (some ⟨gX, 5, none⟩)] g u ∧ g ∉ [gA, gE, gX]) (by kernel_rfl) (fun w1 hw h => make_litF (by kernel_rfl) (by intro b hb; simp only [List.mem_cons, List.not_mem_nil, or_false] at hb; rcases hb with rfl | rfl | rfl; exact (PB.ba h.1).lt; exact (PB.be h.1).lt; exact h.2.lt)) (fun ga => ?_)
    refine Good.run (by kernel_rfl) (stop := 1000) 1000 _ ?_
    refine Good.pure_ (p := ga ∉ [gA, gE, gX]) (fun u hu h => h.2.2) (by kernel_rfl) (fun hga => ?_)
    have hga2 := hga
    simp only [List.mem_cons, List.not_mem_nil, or_false, not_or] at hga2
    obtain ⟨gaA, gaE, gaX⟩ := hga2
    refine Good.ask (ldS 3 ⟨gX, 0, none⟩) (.int .i64 2) (by kernel_rfl) (fun w1 hw h => run_ldS (by kernel_rfl) (h.1.2.cell)) ?_
    refine Good.run (by kernel_rfl) (stop := 1000) 1000 _ ?_
    refine Good.callv (fun w1 hw h => points_m (v := 2) (r := 1) (by decide) rfl) (by kernel_rfl) (fun u => ?_)
    refine Good.run (by kernel_rfl) (stop := 4) 1000 _ ?_
    refine Good.ask (slH 53 (.slice (some ⟨ga, 0, none⟩) 3 3) (1 : Nat)) (.slice (some ⟨ga, 0, none⟩) 1 3) (by kernel_rfl) (fun w1 hw h => run_slH (e := 52) (by kernel_rfl) (by kernel_rfl) (by kernel_rfl) (by decide)) ?_
    refine Good.run (by kernel_rfl) (stop := 1000) 1000 _ ?_
    refine Good.un (by kernel_rfl) ?_
    refine Good.run (by kernel_rfl) (stop := 1000) 1000 _ ?_
    refine Good.cond true (by kernel_rfl) ?_
    refine Good.run (by kernel_rfl) (stop := 1000) 1000 _ ?_
    refine Good.ask (idxS 53 (.slice (some ⟨ga, 0, none⟩) 1 3) (0 : Nat)) (.pointer (some ⟨ga, 0 * 1, none⟩)) (by kernel_rfl) (fun w1 hw h => run_idxN (elem := 52) (by kernel_rfl) (by kernel_rfl) (by decide)) ?_
    refine Good.run (by kernel_rfl) (stop := 1000) 1000 _ ?_
    refine Good.ask (ldS 52 ⟨ga, 0 * 1, none⟩) (.pointer (some ⟨gX, 1, none⟩)) (by kernel_rfl) (fun w1 hw h => run_ldS (by kernel_rfl) (lit_cell h.1.2.1 rfl)) ?_
    refine Good.run (by kernel_rfl) (stop := 1000) 1000 _ ?_
    refine Good.make (litS 55 2 #[(0, .pointer (some ⟨gX, 1, none⟩)), (1, .pointer (some ⟨gX, 2, none⟩))]) (litV 2) (fun g u => litG 54 #[.pointer (some ⟨gX, 1, none⟩), .pointer (some ⟨gX, 2, none⟩)] g u ∧ g ∉ [gA, gE, gX]) (by kernel_rfl) (fun w1 hw h => make_litF (by kernel_rfl) (by intro b hb; simp only [List.mem_cons, List.not_mem_nil, or_false] at hb; rcases hb with rfl | rfl | rfl; exact (PB.ba h.1.1.1).lt; exact (PB.be h.1.1.1).lt; exact BoxAt.lt h.1.1.2)) (fun gb0 => ?_)
    refine Good.run (by kernel_rfl) (stop := 1000) 1000 _ ?_
    refine Good.pure_ (p := gb0 ∉ [gA, gE, gX]) (fun u hu h => h.2.2) (by kernel_rfl) (fun hgb0 => ?_)
    simp only [List.mem_cons, List.not_mem_nil, or_false, not_or] at hgb0
    refine Good.un (by kernel_rfl) ?_
    refine Good.run (by kernel_rfl) (stop := 1000) 1000 _ ?_
    refine Good.cond true (by kernel_rfl) ?_
    refine Good.run (by kernel_rfl) (stop := 1000) 1000 _ ?_
    refine Good.ask (idxS 55 (.slice (some ⟨gb0, 0, none⟩) 2 2) (0 : Nat)) (.pointer (some ⟨gb0, 0 * 1, none⟩)) (by kernel_rfl) (fun w1 hw h => run_idxN (elem := 54) (by kernel_rfl) (by kernel_rfl) (by decide)) ?_
    refine Good.run (by kernel_rfl) (stop := 1000) 1000 _ ?_
    refine Good.ask (ldS 54 ⟨gb0, 0 * 1, none⟩) (.pointer (some ⟨gX, 1, none⟩)) (by kernel_rfl) (fun w1 hw h => run_ldS (by kernel_rfl) (lit_cell h.2.1 rfl)) ?_
    refine Good.run (by kernel_rfl) (stop := 1000) 1000 _ ?_
    by_cases e0a : numE ws (i + 1) = 0
    case neg =>
      have hf : failAt ws (2 * (namedI 2).toNat) (i + 1) = some (i + 1) := by
        show failAt ws 2 (i + 1) = _
        rw [failAt, if_neg e0a]
      rw [pw_fail hx hv (by decide) hf] at hR
      obtain ⟨rfl, rfl, rfl⟩ : [] = out ∧ i + 1 = at_ ∧ numE ws (i + 1) = e := by cases hR; exact ⟨rfl, rfl, rfl⟩
      refine Good.mut (L := [gA, gE]) (Φ' := fun _ u => PB w.heap.size gW gA gE A n n ws y m yc acc (i + 1) (numE ws (i + 1)) u ∧ BoxAt u gX [.int .i64 2, .int .i64 0, .int .i64 0, .int .i64 0, .int .i64 0, .int .i64 0, .int .i64 0] ∧ litG 52 #[.pointer (some ⟨gX, 1, none⟩), .pointer (some ⟨gX, 3, none⟩), .pointer (some ⟨gX, 5, none⟩)] ga u ∧ litG 54 #[.pointer (some ⟨gX, 1, none⟩), .pointer (some ⟨gX, 2, none⟩)] gb0 u) (fun w1 hw h => next_v (i' := i + 1) (e' := numE ws (i + 1)) hw h.1.1.1.1 D (show i + 1 ≤ n from by omega) (by omega) hmem (if_neg e0a) rfl rfl) (fun u h => PB.own h.1.1.1.1 D) (fun _ wa u e1 e2 h hG => ⟨PB.mutAE h.1.1.1.1 D e2 hG, BoxAt.left h.1.1.1.2 e2 (by simp [xa, xe]), lit_left h.1.1.2.1 e2 (by simp [gaA, gaE]), lit_left h.2.1 e2 (by simp [hgb0.1, hgb0.2.1])⟩) (by kernel_rfl) (by kernel_rfl) (fun _ => ?_)
      refine Good.run (by kernel_rfl) (stop := 1000) 1000 _ ?_
      refine Good.mutSt (L := [gX]) (G := fun u => BoxAt u gX [.int .i64 2, .int .i64 (numV ws (i + 1)), .int .i64 0, .int .i64 0, .int .i64 0, .int .i64 0, .int .i64 0]) (Φ' := fun u => PB w.heap.size gW gA gE A n n ws y m yc acc (i + 1) (numE ws (i + 1)) u ∧ BoxAt u gX [.int .i64 2, .int .i64 (numV ws (i + 1)), .int .i64 0, .int .i64 0, .int .i64 0, .int .i64 0, .int .i64 0] ∧ litG 52 #[.pointer (some ⟨gX, 1, none⟩), .pointer (some ⟨gX, 3, none⟩), .pointer (some ⟨gX, 5, none⟩)] ga u ∧ litG 54 #[.pointer (some ⟨gX, 1, none⟩), .pointer (some ⟨gX, 2, none⟩)] gb0 u) (stS 3 ⟨gX, 1, none⟩ (.int .i64 (numV ws (i + 1)))) (fun w1 hw h => h.2.1.store1 (by kernel_rfl) rfl (by simp) rfl) (fun u h b hb => by obtain rfl : b = gX := by { simpa using hb }; exact ⟨lx, h.2.1.own⟩) (fun wa u e1 e2 h hG => ⟨PB.mutX h.1 hX e2, hG, lit_left h.2.2.1 e2 (by simp [gaX]), lit_left h.2.2.2 e2 (by simp [hgb0.2.2])⟩) (by kernel_rfl) (by kernel_rfl) ?_
      refine Good.run (by kernel_rfl) (stop := 1000) 1000 _ ?_
      refine Good.ask (ldS 24 ⟨gE, 0, none⟩) (.int .i64 (numE ws (i + 1))) (by kernel_rfl) (fun w1 hw h => run_ldS (by kernel_rfl) (PB.be h.1).one) ?_
      refine Good.run (by kernel_rfl) (stop := 1000) 1000 _ ?_
      refine Good.condr ((numE ws (i + 1) != 0)) true (by kernel_rfl) (by simpa using e0a) ?_
      refine Good.run (by kernel_rfl) (stop := 1000) 1000 _ ?_
      refine Good.askAt 0 (ldS 3 ⟨gA, 0, none⟩) (.int .i64 ((i + 1 : Nat) : Int)) (by kernel_rfl) (fun w1 hw h => run_ldS (by kernel_rfl) (PB.ba h.1).one) ?_
      refine Good.run (by kernel_rfl) (stop := 1000) 1000 _ ?_
      refine Good.askAt 1 (ldS 24 ⟨gE, 0, none⟩) (.int .i64 (numE ws (i + 1))) (by kernel_rfl) (fun w1 hw h => run_ldS (by kernel_rfl) (PB.be h.1).one) ?_
      refine Good.run (by kernel_rfl) (stop := 1000) 1000 _ ?_
      refine Good.leave (by kernel_rfl) ?_
      refine Good.run (by kernel_rfl) (stop := 1000) 1000 _ ?_
      refine Good.ret (v := .tuple #[.slice none 0 0, .int .i64 ((i + 1 : Nat) : Int), .int .i64 (numE ws (i + 1))]) (by kernel_rfl) (fun w1 hw h => ⟨(none, 0), rfl, hw, fun _ _ _ => ⟨rfl, fun k s hk => by simp at hk⟩⟩)
    have hlt00 : i + 1 < n := by
      rcases Nat.lt_or_ge (i + 1) n with h1 | h1
      · exact h1
      · rw [numE, List.getElem?_eq_none (by omega)] at e0a; exact absurd e0a (by decide)
    refine Good.mut (L := [gA, gE]) (Φ' := fun _ u => PB w.heap.size gW gA gE A n n ws y m yc acc (i + 1 + 1) (0) u ∧ BoxAt u gX [.int .i64 2, .int .i64 0, .int .i64 0, .int .i64 0, .int .i64 0, .int .i64 0, .int .i64 0] ∧ litG 52 #[.pointer (some ⟨gX, 1, none⟩), .pointer (some ⟨gX, 3, none⟩), .pointer (some ⟨gX, 5, none⟩)] ga u ∧ litG 54 #[.pointer (some ⟨gX, 1, none⟩), .pointer (some ⟨gX, 2, none⟩)] gb0 u) (fun w1 hw h => next_v (i' := i + 1 + 1) (e' := 0) hw h.1.1.1.1 D (show i + 1 ≤ n from by omega) (by omega) hmem (if_pos e0a) e0a rfl) (fun u h => PB.own h.1.1.1.1 D) (fun _ wa u e1 e2 h hG => ⟨PB.mutAE h.1.1.1.1 D e2 hG, BoxAt.left h.1.1.1.2 e2 (by simp [xa, xe]), lit_left h.1.1.2.1 e2 (by simp [gaA, gaE]), lit_left h.2.1 e2 (by simp [hgb0.1, hgb0.2.1])⟩) (by kernel_rfl) (by kernel_rfl) (fun _ => ?_)
    refine Good.run (by kernel_rfl) (stop := 1000) 1000 _ ?_
    refine Good.mutSt (L := [gX]) (G := fun u => BoxAt u gX [.int .i64 2, .int .i64 (numV ws (i + 1)), .int .i64 0, .int .i64 0, .int .i64 0, .int .i64 0, .int .i64 0]) (Φ' := fun u => PB w.heap.size gW gA gE A n n ws y m yc acc (i + 1 + 1) (0) u ∧ BoxAt u gX [.int .i64 2, .int .i64 (numV ws (i + 1)), .int .i64 0, .int .i64 0, .int .i64 0, .int .i64 0, .int .i64 0] ∧ litG 52 #[.pointer (some ⟨gX, 1, none⟩), .pointer (some ⟨gX, 3, none⟩), .pointer (some ⟨gX, 5, none⟩)] ga u ∧ litG 54 #[.pointer (some ⟨gX, 1, none⟩), .pointer (some ⟨gX, 2, none⟩)] gb0 u) (stS 3 ⟨gX, 1, none⟩ (.int .i64 (numV ws (i + 1)))) (fun w1 hw h => h.2.1.store1 (by kernel_rfl) rfl (by simp) rfl) (fun u h b hb => by obtain rfl : b = gX := by { simpa using hb }; exact ⟨lx, h.2.1.own⟩) (fun wa u e1 e2 h hG => ⟨PB.mutX h.1 hX e2, hG, lit_left h.2.2.1 e2 (by simp [gaX]), lit_left h.2.2.2 e2 (by simp [hgb0.2.2])⟩) (by kernel_rfl) (by kernel_rfl) ?_
    refine Good.run (by kernel_rfl) (stop := 1000) 1000 _ ?_
    refine Good.ask (ldS 24 ⟨gE, 0, none⟩) (.int .i64 (0)) (by kernel_rfl) (fun w1 hw h => run_ldS (by kernel_rfl) (PB.be h.1).one) ?_
    refine Good.run (by kernel_rfl) (stop := 1000) 1000 _ ?_
    refine Good.cond false (by kernel_rfl) ?_
    refine Good.run (by kernel_rfl) (stop := 1000) 1000 _ ?_
    refine Good.cond true (by kernel_rfl) ?_
    refine Good.run (by kernel_rfl) (stop := 1000) 1000 _ ?_
    refine Good.ask (idxS 55 (.slice (some ⟨gb0, 0, none⟩) 2 2) (1 : Nat)) (.pointer (some ⟨gb0, 1 * 1, none⟩)) (by kernel_rfl) (fun w1 hw h => run_idxN (elem := 54) (by kernel_rfl) (by kernel_rfl) (by decide)) ?_
    refine Good.run (by kernel_rfl) (stop := 1000) 1000 _ ?_
    refine Good.ask (ldS 54 ⟨gb0, 1 * 1, none⟩) (.pointer (some ⟨gX, 2, none⟩)) (by kernel_rfl) (fun w1 hw h => run_ldS (by kernel_rfl) (lit_cell h.2.2.2 rfl)) ?_
    refine Good.run (by kernel_rfl) (stop := 1000) 1000 _ ?_
    by_cases e0b : numE ws (i + 1 + 1) = 0
    case neg =>
      have hf : failAt ws (2 * (namedI 2).toNat) (i + 1) = some (i + 1 + 1) := by
        show failAt ws 2 (i + 1) = _
        rw [failAt, if_pos e0a, failAt, if_neg e0b]
      rw [pw_fail hx hv (by decide) hf] at hR
      obtain ⟨rfl, rfl, rfl⟩ : [] = out ∧ i + 1 + 1 = at_ ∧ numE ws (i + 1 + 1) = e := by cases hR; exact ⟨rfl, rfl, rfl⟩
      refine Good.mut (L := [gA, gE]) (Φ' := fun _ u => PB w.heap.size gW gA gE A n n ws y m yc acc (i + 1 + 1) (numE ws (i + 1 + 1)) u ∧ BoxAt u gX [.int .i64 2, .int .i64 (numV ws (i + 1)), .int .i64 0, .int .i64 0, .int .i64 0, .int .i64 0, .int .i64 0] ∧ litG 52 #[.pointer (some ⟨gX, 1, none⟩), .pointer (some ⟨gX, 3, none⟩), .pointer (some ⟨gX, 5, none⟩)] ga u ∧ litG 54 #[.pointer (some ⟨gX, 1, none⟩), .pointer (some ⟨gX, 2, none⟩)] gb0 u) (fun w1 hw h => next_v (i' := i + 1 + 1) (e' := numE ws (i + 1 + 1)) hw h.1 D (show i + 1 + 1 ≤ n from by omega) (by omega) hmem (if_neg e0b) rfl rfl) (fun u h => PB.own h.1 D) (fun _ wa u e1 e2 h hG => ⟨PB.mutAE h.1 D e2 hG, BoxAt.left h.2.1 e2 (by simp [xa, xe]), lit_left h.2.2.1 e2 (by simp [gaA, gaE]), lit_left h.2.2.2 e2 (by simp [hgb0.1, hgb0.2.1])⟩) (by kernel_rfl) (by kernel_rfl) (fun _ => ?_)
      refine Good.run (by kernel_rfl) (stop := 1000) 1000 _ ?_
      refine Good.mutSt (L := [gX]) (G := fun u => BoxAt u gX [.int .i64 2, .int .i64 (numV ws (i + 1)), .int .i64 (numV ws (i + 1 + 1)), .int .i64 0, .int .i64 0, .int .i64 0, .int .i64 0]) (Φ' := fun u => PB w.heap.size gW gA gE A n n ws y m yc acc (i + 1 + 1) (numE ws (i + 1 + 1)) u ∧ BoxAt u gX [.int .i64 2, .int .i64 (numV ws (i + 1)), .int .i64 (numV ws (i + 1 + 1)), .int .i64 0, .int .i64 0, .int .i64 0, .int .i64 0] ∧ litG 52 #[.pointer (some ⟨gX, 1, none⟩), .pointer (some ⟨gX, 3, none⟩), .pointer (some ⟨gX, 5, none⟩)] ga u ∧ litG 54 #[.pointer (some ⟨gX, 1, none⟩), .pointer (some ⟨gX, 2, none⟩)] gb0 u) (stS 3 ⟨gX, 2, none⟩ (.int .i64 (numV ws (i + 1 + 1)))) (fun w1 hw h => h.2.1.store1 (by kernel_rfl) rfl (by simp) rfl) (fun u h b hb => by obtain rfl : b = gX := by { simpa using hb }; exact ⟨lx, h.2.1.own⟩) (fun wa u e1 e2 h hG => ⟨PB.mutX h.1 hX e2, hG, lit_left h.2.2.1 e2 (by simp [gaX]), lit_left h.2.2.2 e2 (by simp [hgb0.2.2])⟩) (by kernel_rfl) (by kernel_rfl) ?_
      refine Good.run (by kernel_rfl) (stop := 1000) 1000 _ ?_
      refine Good.ask (ldS 24 ⟨gE, 0, none⟩) (.int .i64 (numE ws (i + 1 + 1))) (by kernel_rfl) (fun w1 hw h => run_ldS (by kernel_rfl) (PB.be h.1).one) ?_
      refine Good.run (by kernel_rfl) (stop := 1000) 1000 _ ?_
      refine Good.condr ((numE ws (i + 1 + 1) != 0)) true (by kernel_rfl) (by simpa using e0b) ?_
      refine Good.run (by kernel_rfl) (stop := 1000) 1000 _ ?_
      refine Good.askAt 0 (ldS 3 ⟨gA, 0, none⟩) (.int .i64 ((i + 1 + 1 : Nat) : Int)) (by kernel_rfl) (fun w1 hw h => run_ldS (by kernel_rfl) (PB.ba h.1).one) ?_
      refine Good.run (by kernel_rfl) (stop := 1000) 1000 _ ?_
      refine Good.askAt 1 (ldS 24 ⟨gE, 0, none⟩) (.int .i64 (numE ws (i + 1 + 1))) (by kernel_rfl) (fun w1 hw h => run_ldS (by kernel_rfl) (PB.be h.1).one) ?_
      refine Good.run (by kernel_rfl) (stop := 1000) 1000 _ ?_
      refine Good.leave (by kernel_rfl) ?_
      refine Good.run (by kernel_rfl) (stop := 1000) 1000 _ ?_
      refine Good.ret (v := .tuple #[.slice none 0 0, .int .i64 ((i + 1 + 1 : Nat) : Int), .int .i64 (numE ws (i + 1 + 1))]) (by kernel_rfl) (fun w1 hw h => ⟨(none, 0), rfl, hw, fun _ _ _ => ⟨rfl, fun k s hk => by simp at hk⟩⟩)
    have hlt01 : i + 1 + 1 < n := by
      rcases Nat.lt_or_ge (i + 1 + 1) n with h1 | h1
      · exact h1
      · rw [numE, List.getElem?_eq_none (by omega)] at e0b; exact absurd e0b (by decide)
    refine Good.mut (L := [gA, gE]) (Φ' := fun _ u => PB w.heap.size gW gA gE A n n ws y m yc acc (i + 1 + 1 + 1) (0) u ∧ BoxAt u gX [.int .i64 2, .int .i64 (numV ws (i + 1)), .int .i64 0, .int .i64 0, .int .i64 0, .int .i64 0, .int .i64 0] ∧ litG 52 #[.pointer (some ⟨gX, 1, none⟩), .pointer (some ⟨gX, 3, none⟩), .pointer (some ⟨gX, 5, none⟩)] ga u ∧ litG 54 #[.pointer (some ⟨gX, 1, none⟩), .pointer (some ⟨gX, 2, none⟩)] gb0 u) (fun w1 hw h => next_v (i' := i + 1 + 1 + 1) (e' := 0) hw h.1 D (show i + 1 + 1 ≤ n from by omega) (by omega) hmem (if_pos e0b) e0b rfl) (fun u h => PB.own h.1 D) (fun _ wa u e1 e2 h hG => ⟨PB.mutAE h.1 D e2 hG, BoxAt.left h.2.1 e2 (by simp [xa, xe]), lit_left h.2.2.1 e2 (by simp [gaA, gaE]), lit_left h.2.2.2 e2 (by simp [hgb0.1, hgb0.2.1])⟩) (by kernel_rfl) (by kernel_rfl) (fun _ => ?_)
    refine Good.run (by kernel_rfl) (stop := 1000) 1000 _ ?_
    refine Good.mutSt (L := [gX]) (G := fun u => BoxAt u gX [.int .i64 2, .int .i64 (numV ws (i + 1)), .int .i64 (numV ws (i + 1 + 1)), .int .i64 0, .int .i64 0, .int .i64 0, .int .i64 0]) (Φ' := fun u => PB w.heap.size gW gA gE A n n ws y m yc acc (i + 1 + 1 + 1) (0) u ∧ BoxAt u gX [.int .i64 2, .int .i64 (numV ws (i + 1)), .int .i64 (numV ws (i + 1 + 1)), .int .i64 0, .int .i64 0, .int .i64 0, .int .i64 0] ∧ litG 52 #[.pointer (some ⟨gX, 1, none⟩), .pointer (some ⟨gX, 3, none⟩), .pointer (some ⟨gX, 5, none⟩)] ga u ∧ litG 54 #[.pointer (some ⟨gX, 1, none⟩), .pointer (some ⟨gX, 2, none⟩)] gb0 u) (stS 3 ⟨gX, 2, none⟩ (.int .i64 (numV ws (i + 1 + 1)))) (fun w1 hw h => h.2.1.store1 (by kernel_rfl) rfl (by simp) rfl) (fun u h b hb => by obtain rfl : b = gX := by { simpa using hb }; exact ⟨lx, h.2.1.own⟩) (fun wa u e1 e2 h hG => ⟨PB.mutX h.1 hX e2, hG, lit_left h.2.2.1 e2 (by simp [gaX]), lit_left h.2.2.2 e2 (by simp [hgb0.2.2])⟩) (by kernel_rfl) (by kernel_rfl) ?_
    refine Good.run (by kernel_rfl) (stop := 1000) 1000 _ ?_
    refine Good.ask (ldS 24 ⟨gE, 0, none⟩) (.int .i64 (0)) (by kernel_rfl) (fun w1 hw h => run_ldS (by kernel_rfl) (PB.be h.1).one) ?_
    refine Good.run (by kernel_rfl) (stop := 1000) 1000 _ ?_
    refine Good.cond false (by kernel_rfl) ?_
    refine Good.run (by kernel_rfl) (stop := 1000) 1000 _ ?_
    refine Good.cond false (by kernel_rfl) ?_
    refine Good.run (by kernel_rfl) (stop := 1000) 1000 _ ?_
    refine Good.cond false (by kernel_rfl) ?_
    refine Good.run (by kernel_rfl) (stop := 1000) 1000 _ ?_
    have hf : failAt ws (2 * (namedI 2).toNat) (i + 1) = none := by
      show failAt ws 2 (i + 1) = _
      rw [failAt, if_pos e0a, failAt, if_pos e0b, failAt]
    rw [pw_step hx hv (by decide) hf] at hR
    refine Good.ask (ldS 41 ⟨gX, 0, none⟩) (Sg.val ⟨2, numV ws (i + 1), numV ws (i + 1 + 1), 0, 0, 0, 0⟩) (by kernel_rfl) (fun w1 hw h => run_ldN (vs := Sg.cl ⟨2, numV ws (i + 1), numV ws (i + 1 + 1), 0, 0, 0, 0⟩) (by kernel_rfl) (by kernel_rfl) (BoxAt.range h.2.1)) ?_
    refine Good.run (by kernel_rfl) (stop := 1000) 1000 _ ?_
    refine Good.make (litS 22 1 #[(0, Sg.val ⟨2, numV ws (i + 1), numV ws (i + 1 + 1), 0, 0, 0, 0⟩)]) (litV 1) (litG 41 (Sg.cl ⟨2, numV ws (i + 1), numV ws (i + 1 + 1), 0, 0, 0, 0⟩).toArray) (by kernel_rfl) (fun w1 hw h => make_lit (by kernel_rfl)) (fun gb => ?_)
    refine Good.run (by kernel_rfl) (stop := 3) 1000 _ ?_
    refine Good.mutOp (L := bl y) (val := fun (z : Option Addr × Nat) => .slice z.1 (m + 1) z.2) (Φ' := fun (z : Option Addr × Nat) u => PB w.heap.size gW gA gE A n n ws z.1 (m + 1) z.2 (acc ++ [Sg.mk 2 (numV ws (i + 1)) (numV ws (i + 1 + 1)) 0 0 0 0]) (i + 1 + 1 + 1) 0 u) (G := fun (z : Option Addr × Nat) vv => OwnR vv w.heap.size 41 7 z.1 (m + 1) z.2 (gv (acc ++ [Sg.mk 2 (numV ws (i + 1)) (numV ws (i + 1 + 1)) 0 0 0 0]))) (appS 22 22 (.slice y m yc) (litV 1 gb)) (fun w1 hw h => app_seg (PB.ow h.1.1) hw.size h.2 (show m < 1000000 from by omega)) (fun w1 h => fun b hb => ⟨((PB.ow h.1.1).lt b hb).1, ((PB.ow h.1.1).blk b hb).2⟩) (fun z wa w1 e1 e2 h hG => PB.app h.1.1 D e2 hG) (by kernel_rfl) (by kernel_rfl) (fun z => ?_)
    refine Good.run (by kernel_rfl) (stop := 1000) 1000 _ ?_
    refine Good.next (⟨((i + 1 + 1 + 1, m + 1, acc ++ [Sg.mk 2 (numV ws (i + 1)) (numV ws (i + 1 + 1)) 0 0 0 0]), z), by show i + 1 + 1 + 1 ≤ n; omega, by show m + 1 ≤ i + 1 + 1 + 1; omega, by show (acc ++ _).length = m + 1; rw [List.length_append, hacc]; rfl, fun h => absurd (show m + 1 = 0 from h) (by omega), hR⟩) (by kernel_rfl) (by show n - (i + 1 + 1 + 1) < n - i; omega) ⟨by kernel_rfl, by kernel_rfl, by kernel_rfl⟩ (fun u h => h)
  ·
    refine Good.callv (fun w1 hw h => verb_m hv) (by kernel_rfl) (fun u => ?_)
    refine Good.run (by kernel_rfl) (stop := 6) 1000 _ ?_
    refine Good.make (allS 41) (ptr) (fun g u => BoxAt u g [.int .i64 0, .int .i64 0, .int .i64 0, .int .i64 0, .int .i64 0, .int .i64 0, .int .i64 0] ∧ w.heap.size ≤ g ∧ g ∉ gW :: gA :: gE :: (bl A ++ bl y)) (by kernel_rfl) (fun w1 hw h => make_allF (z := Sg.val ⟨0, 0, 0, 0, 0, 0, 0⟩) (by kernel_rfl) hw.size (PB.lts h.1 (hAlt _ h.1))) (fun gX => ?_)
    refine Good.run (by kernel_rfl) (stop := 1000) 1000 _ ?_
    refine Good.pure_ (p := w.heap.size ≤ gX ∧ gX ∉ gW :: gA :: gE :: (bl A ++ bl y)) (fun u hu h => h.2.2) (by kernel_rfl) (fun hp => ?_)
    obtain ⟨lx, hX⟩ := hp
    have hX2 := hX
    simp only [List.mem_cons, List.mem_append, not_or] at hX2
    obtain ⟨xw, xa, xe, xs, xy⟩ := hX2
    refine Good.mutSt (L := [gX]) (G := fun u => BoxAt u gX [.int .i64 3, .int .i64 0, .int .i64 0, .int .i64 0, .int .i64 0, .int .i64 0, .int .i64 0]) (Φ' := fun u => PB w.heap.size gW gA gE A n n ws y m yc acc (i) (0) u ∧ BoxAt u gX [.int .i64 3, .int .i64 0, .int .i64 0, .int .i64 0, .int .i64 0, .int .i64 0, .int .i64 0]) (stS 41 ⟨gX, 0, none⟩ (Sg.val ⟨3, 0, 0, 0, 0, 0, 0⟩)) (fun w1 hw h => h.2.1.store (by kernel_rfl) rfl (by intro u hu; simp [Value.cells] at hu; rcases hu with rfl | rfl <;> rfl)) (fun u h b hb => by obtain rfl : b = gX := by { simpa using hb }; exact ⟨lx, h.2.1.own⟩) (fun wa u e1 e2 h hG => ⟨PB.mutX h.1.1 hX e2, hG⟩) (by kernel_rfl) (by kernel_rfl) ?_
    refine Good.run (by kernel_rfl) (stop := 1000) 1000 _ ?_
    refine Good.ask (ldS 3 ⟨gX, 0, none⟩) (.int .i64 3) (by kernel_rfl) (fun w1 hw h => run_ldS (by kernel_rfl) (h.2.cell)) ?_
    refine Good.run (by kernel_rfl) (stop := 1000) 1000 _ ?_
    refine Good.cond false (by kernel_rfl) ?_
    refine Good.run (by kernel_rfl) (stop := 1000) 1000 _ ?_
    refine Good.ask (ldS 3 ⟨gA, 0, none⟩) (.int .i64 i) (by kernel_rfl) (fun w1 hw h => run_ldS (by kernel_rfl) (PB.ba h.1).one) ?_
    refine Good.run (by kernel_rfl) (stop := 1000) 1000 _ ?_
    refine Good.slot 41 (.int .i64 (IntKind.i64.wrap ((i : Int) + 1))) (.int .i64 ((i + 1 : Nat) : Int)) (by kernel_rfl) (by rw [wrap_succ hlt (by omega)]) ?_
    refine Good.mutSt (L := [gA]) (G := fun u => BoxAt u gA [.int .i64 ((i + 1 : Nat) : Int)]) (Φ' := fun u => PB w.heap.size gW gA gE A n n ws y m yc acc (i + 1) (0) u ∧ BoxAt u gX [.int .i64 3, .int .i64 0, .int .i64 0, .int .i64 0, .int .i64 0, .int .i64 0, .int .i64 0]) (stS 3 ⟨gA, 0, none⟩ (.int .i64 ((i + 1 : Nat) : Int))) (fun w1 hw h => (PB.ba h.1).store (by kernel_rfl) rfl (by intro u hu; simp [Value.cells] at hu; subst hu; rfl)) (fun u h b hb => by obtain rfl : b = gA := by { simpa using hb }; exact ⟨la, (PB.ba h.1).own⟩) (fun wa u e1 e2 h hG => ⟨PB.mutA h.1 D e2 hG, h.2.left e2 (by simp [xa])⟩) (by kernel_rfl) (by kernel_rfl) ?_
    refine Good.run (by kernel_rfl) (stop := 1000) 1000 _ ?_
    refine Good.make (litS 53 3 #[(0, .pointer (some ⟨gX, 1, none⟩)), (1, .pointer (some ⟨gX, 3, none⟩)), (2, .pointer (some ⟨gX, 5, none⟩))]) (litV 3) (fun g u => litG 52 #[.pointer (some ⟨gX, 1, none⟩), .pointer (some ⟨gX, 3, none⟩), .pointer (some ⟨gX, 5, none⟩)] g u ∧ g ∉ [gA, gE, gX]) (by kernel_rfl) (fun w1 hw h => make_litF (by kernel_rfl) (by intro b hb; simp only [List.mem_cons, List.not_mem_nil, or_false] at hb; rcases hb with rfl | rfl | rfl; exact (PB.ba h.1).lt; exact (PB.be h.1).lt; exact h.2.lt)) (fun ga => ?_)
    refine Good.run (by kernel_rfl) (stop := 1000) 1000 _ ?_
    refine Good.pure_ (p := ga ∉ [gA, gE, gX]) (fun u hu h => h.2.2) (by kernel_rfl) (fun hga => ?_)
    have hga2 := hga
    simp only [List.mem_cons, List.not_mem_nil, or_false, not_or] at hga2
    obtain ⟨gaA, gaE, gaX⟩ := hga2
    refine Good.ask (ldS 3 ⟨gX, 0, none⟩) (.int .i64 3) (by kernel_rfl) (fun w1 hw h => run_ldS (by kernel_rfl) (h.1.2.cell)) ?_
    refine Good.run (by kernel_rfl) (stop := 1000) 1000 _ ?_
    refine Good.callv (fun w1 hw h => points_m (v := 3) (r := 2) (by decide) rfl) (by kernel_rfl) (fun u => ?_)
    refine Good.run (by kernel_rfl) (stop := 4) 1000 _ ?_
    refine Good.ask (slH 53 (.slice (some ⟨ga, 0, none⟩) 3 3) (2 : Nat)) (.slice (some ⟨ga, 0, none⟩) 2 3) (by kernel_rfl) (fun w1 hw h => run_slH (e := 52) (by kernel_rfl) (by kernel_rfl) (by kernel_rfl) (by decide)) ?_
    refine Good.run (by kernel_rfl) (stop := 1000) 1000 _ ?_
    refine Good.un (by kernel_rfl) ?_
    refine Good.run (by kernel_rfl) (stop := 1000) 1000 _ ?_
    refine Good.cond true (by kernel_rfl) ?_
    refine Good.run (by kernel_rfl) (stop := 1000) 1000 _ ?_
    refine Good.ask (idxS 53 (.slice (some ⟨ga, 0, none⟩) 2 3) (0 : Nat)) (.pointer (some ⟨ga, 0 * 1, none⟩)) (by kernel_rfl) (fun w1 hw h => run_idxN (elem := 52) (by kernel_rfl) (by kernel_rfl) (by decide)) ?_
    refine Good.run (by kernel_rfl) (stop := 1000) 1000 _ ?_
    refine Good.ask (ldS 52 ⟨ga, 0 * 1, none⟩) (.pointer (some ⟨gX, 1, none⟩)) (by kernel_rfl) (fun w1 hw h => run_ldS (by kernel_rfl) (lit_cell h.1.2.1 rfl)) ?_
    refine Good.run (by kernel_rfl) (stop := 1000) 1000 _ ?_
    refine Good.make (litS 55 2 #[(0, .pointer (some ⟨gX, 1, none⟩)), (1, .pointer (some ⟨gX, 2, none⟩))]) (litV 2) (fun g u => litG 54 #[.pointer (some ⟨gX, 1, none⟩), .pointer (some ⟨gX, 2, none⟩)] g u ∧ g ∉ [gA, gE, gX]) (by kernel_rfl) (fun w1 hw h => make_litF (by kernel_rfl) (by intro b hb; simp only [List.mem_cons, List.not_mem_nil, or_false] at hb; rcases hb with rfl | rfl | rfl; exact (PB.ba h.1.1.1).lt; exact (PB.be h.1.1.1).lt; exact BoxAt.lt h.1.1.2)) (fun gb0 => ?_)
    refine Good.run (by kernel_rfl) (stop := 1000) 1000 _ ?_
    refine Good.pure_ (p := gb0 ∉ [gA, gE, gX]) (fun u hu h => h.2.2) (by kernel_rfl) (fun hgb0 => ?_)
    simp only [List.mem_cons, List.not_mem_nil, or_false, not_or] at hgb0
    refine Good.un (by kernel_rfl) ?_
    refine Good.run (by kernel_rfl) (stop := 1000) 1000 _ ?_
    refine Good.cond true (by kernel_rfl) ?_
    refine Good.run (by kernel_rfl) (stop := 1000) 1000 _ ?_
    refine Good.ask (idxS 55 (.slice (some ⟨gb0, 0, none⟩) 2 2) (0 : Nat)) (.pointer (some ⟨gb0, 0 * 1, none⟩)) (by kernel_rfl) (fun w1 hw h => run_idxN (elem := 54) (by kernel_rfl) (by kernel_rfl) (by decide)) ?_
    refine Good.run (by kernel_rfl) (stop := 1000) 1000 _ ?_
    refine Good.ask (ldS 54 ⟨gb0, 0 * 1, none⟩) (.pointer (some ⟨gX, 1, none⟩)) (by kernel_rfl) (fun w1 hw h => run_ldS (by kernel_rfl) (lit_cell h.2.1 rfl)) ?_
    refine Good.run (by kernel_rfl) (stop := 1000) 1000 _ ?_
    by_cases e0a : numE ws (i + 1) = 0
    case neg =>
      have hf : failAt ws (2 * (namedI 3).toNat) (i + 1) = some (i + 1) := by
        show failAt ws 4 (i + 1) = _
        rw [failAt, if_neg e0a]
      rw [pw_fail hx hv (by decide) hf] at hR
      obtain ⟨rfl, rfl, rfl⟩ : [] = out ∧ i + 1 = at_ ∧ numE ws (i + 1) = e := by cases hR; exact ⟨rfl, rfl, rfl⟩
      refine Good.mut (L := [gA, gE]) (Φ' := fun _ u => PB w.heap.size gW gA gE A n n ws y m yc acc (i + 1) (numE ws (i + 1)) u ∧ BoxAt u gX [.int .i64 3, .int .i64 0, .int .i64 0, .int .i64 0, .int .i64 0, .int .i64 0, .int .i64 0] ∧ litG 52 #[.pointer (some ⟨gX, 1, none⟩), .pointer (some ⟨gX, 3, none⟩), .pointer (some ⟨gX, 5, none⟩)] ga u ∧ litG 54 #[.pointer (some ⟨gX, 1, none⟩), .pointer (some ⟨gX, 2, none⟩)] gb0 u) (fun w1 hw h => next_v (i' := i + 1) (e' := numE ws (i + 1)) hw h.1.1.1.1 D (show i + 1 ≤ n from by omega) (by omega) hmem (if_neg e0a) rfl rfl) (fun u h => PB.own h.1.1.1.1 D) (fun _ wa u e1 e2 h hG => ⟨PB.mutAE h.1.1.1.1 D e2 hG, BoxAt.left h.1.1.1.2 e2 (by simp [xa, xe]), lit_left h.1.1.2.1 e2 (by simp [gaA, gaE]), lit_left h.2.1 e2 (by simp [hgb0.1, hgb0.2.1])⟩) (by kernel_rfl) (by kernel_rfl) (fun _ => ?_)
      refine Good.run (by kernel_rfl) (stop := 1000) 1000 _ ?_
      refine Good.mutSt (L := [gX]) (G := fun u => BoxAt u gX [.int .i64 3, .int .i64 (numV ws (i + 1)), .int .i64 0, .int .i64 0, .int .i64 0, .int .i64 0, .int .i64 0]) (Φ' := fun u => PB w.heap.size gW gA gE A n n ws y m yc acc (i + 1) (numE ws (i + 1)) u ∧ BoxAt u gX [.int .i64 3, .int .i64 (numV ws (i + 1)), .int .i64 0, .int .i64 0, .int .i64 0, .int .i64 0, .int .i64 0] ∧ litG 52 #[.pointer (some ⟨gX, 1, none⟩), .pointer (some ⟨gX, 3, none⟩), .pointer (some ⟨gX, 5, none⟩)] ga u ∧ litG 54 #[.pointer (some ⟨gX, 1, none⟩), .pointer (some ⟨gX, 2, none⟩)] gb0 u) (stS 3 ⟨gX, 1, none⟩ (.int .i64 (numV ws (i + 1)))) (fun w1 hw h => h.2.1.store1 (by kernel_rfl) rfl (by simp) rfl) (fun u h b hb => by obtain rfl : b = gX := by { simpa using hb }; exact ⟨lx, h.2.1.own⟩) (fun wa u e1 e2 h hG => ⟨PB.mutX h.1 hX e2, hG, lit_left h.2.2.1 e2 (by simp [gaX]), lit_left h.2.2.2 e2 (by simp [hgb0.2.2])⟩) (by kernel_rfl) (by kernel_rfl) ?_
      refine Good.run (by kernel_rfl) (stop := 1000) 1000 _ ?_
      refine Good.ask (ldS 24 ⟨gE, 0, none⟩) (.int .i64 (numE ws (i + 1))) (by kernel_rfl) (fun w1 hw h => run_ldS (by kernel_rfl) (PB.be h.1).one) ?_
      refine Good.run (by kernel_rfl) (stop := 1000) 1000 _ ?_
      refine Good.condr ((numE ws (i + 1) != 0)) true (by kernel_rfl) (by simpa using e0a) ?_
      refine Good.run (by kernel_rfl) (stop := 1000) 1000 _ ?_
      refine Good.askAt 0 (ldS 3 ⟨gA, 0, none⟩) (.int .i64 ((i + 1 : Nat) : Int)) (by kernel_rfl) (fun w1 hw h => run_ldS (by kernel_rfl) (PB.ba h.1).one) ?_
      refine Good.run (by kernel_rfl) (stop := 1000) 1000 _ ?_
      refine Good.askAt 1 (ldS 24 ⟨gE, 0, none⟩) (.int .i64 (numE ws (i + 1))) (by kernel_rfl) (fun w1 hw h => run_ldS (by kernel_rfl) (PB.be h.1).one) ?_
      refine Good.run (by kernel_rfl) (stop := 1000) 1000 _ ?_
      refine Good.leave (by kernel_rfl) ?_
      refine Good.run (by kernel_rfl) (stop := 1000) 1000 _ ?_
      refine Good.ret (v := .tuple #[.slice none 0 0, .int .i64 ((i + 1 : Nat) : Int), .int .i64 (numE ws (i + 1))]) (by kernel_rfl) (fun w1 hw h => ⟨(none, 0), rfl, hw, fun _ _ _ => ⟨rfl, fun k s hk => by simp at hk⟩⟩)
    have hlt00 : i + 1 < n := by
      rcases Nat.lt_or_ge (i + 1) n with h1 | h1
      · exact h1
      · rw [numE, List.getElem?_eq_none (by omega)] at e0a; exact absurd e0a (by decide)
    refine Good.mut (L := [gA, gE]) (Φ' := fun _ u => PB w.heap.size gW gA gE A n n ws y m yc acc (i + 1 + 1) (0) u ∧ BoxAt u gX [.int .i64 3, .int .i64 0, .int .i64 0, .int .i64 0, .int .i64 0, .int .i64 0, .int .i64 0] ∧ litG 52 #[.pointer (some ⟨gX, 1, none⟩), .pointer (some ⟨gX, 3, none⟩), .pointer (some ⟨gX, 5, none⟩)] ga u ∧ litG 54 #[.pointer (some ⟨gX, 1, none⟩), .pointer (some ⟨gX, 2, none⟩)] gb0 u) (fun w1 hw h => next_v (i' := i + 1 + 1) (e' := 0) hw h.1.1.1.1 D (show i + 1 ≤ n from by omega) (by omega) hmem (if_pos e0a) e0a rfl) (fun u h => PB.own h.1.1.1.1 D) (fun _ wa u e1 e2 h hG => ⟨PB.mutAE h.1.1.1.1 D e2 hG, BoxAt.left h.1.1.1.2 e2 (by simp [xa, xe]), lit_left h.1.1.2.1 e2 (by simp [gaA, gaE]), lit_left h.2.1 e2 (by simp [hgb0.1, hgb0.2.1])⟩) (by kernel_rfl) (by kernel_rfl) (fun _ => ?_)
    refine Good.run (by kernel_rfl) (stop := 1000) 1000 _ ?_
    refine Good.mutSt (L := [gX]) (G := fun u => BoxAt u gX [.int .i64 3, .int .i64 (numV ws (i + 1)), .int .i64 0, .int .i64 0, .int .i64 0, .int .i64 0, .int .i64 0]) (Φ' := fun u => PB w.heap.size gW gA gE A n n ws y m yc acc (i + 1 + 1) (0) u ∧ BoxAt u gX [.int .i64 3, .int .i64 (numV ws (i + 1)), .int .i64 0, .int .i64 0, .int .i64 0, .int .i64 0, .int .i64 0] ∧ litG 52 #[.pointer (some ⟨gX, 1, none⟩), .pointer (some ⟨gX, 3, none⟩), .pointer (some ⟨gX, 5, none⟩)] ga u ∧ litG 54 #[.pointer (some ⟨gX, 1, none⟩), .pointer (some ⟨gX, 2, none⟩)] gb0 u) (stS 3 ⟨gX, 1, none⟩ (.int .i64 (numV ws (i + 1)))) (fun w1 hw h => h.2.1.store1 (by kernel_rfl) rfl (by simp) rfl) (fun u h b hb => by obtain rfl : b = gX := by { simpa using hb }; exact ⟨lx, h.2.1.own⟩) (fun wa u e1 e2 h hG => ⟨PB.mutX h.1 hX e2, hG, lit_left h.2.2.1 e2 (by simp [gaX]), lit_left h.2.2.2 e2 (by simp [hgb0.2.2])⟩) (by kernel_rfl) (by kernel_rfl) ?_
    refine Good.run (by kernel_rfl) (stop := 1000) 1000 _ ?_
    refine Good.ask (ldS 24 ⟨gE, 0, none⟩) (.int .i64 (0)) (by kernel_rfl) (fun w1 hw h => run_ldS (by kernel_rfl) (PB.be h.1).one) ?_
    refine Good.run (by kernel_rfl) (stop := 1000) 1000 _ ?_
    refine Good.cond false (by kernel_rfl) ?_
    refine Good.run (by kernel_rfl) (stop := 1000) 1000 _ ?_
    refine Good.cond true (by kernel_rfl) ?_
    refine Good.run (by kernel_rfl) (stop := 1000) 1000 _ ?_
    refine Good.ask (idxS 55 (.slice (some ⟨gb0, 0, none⟩) 2 2) (1 : Nat)) (.pointer (some ⟨gb0, 1 * 1, none⟩)) (by kernel_rfl) (fun w1 hw h => run_idxN (elem := 54) (by kernel_rfl) (by kernel_rfl) (by decide)) ?_
    refine Good.run (by kernel_rfl) (stop := 1000) 1000 _ ?_
    refine Good.ask (ldS 54 ⟨gb0, 1 * 1, none⟩) (.pointer (some ⟨gX, 2, none⟩)) (by kernel_rfl) (fun w1 hw h => run_ldS (by kernel_rfl) (lit_cell h.2.2.2 rfl)) ?_
    refine Good.run (by kernel_rfl) (stop := 1000) 1000 _ ?_
    by_cases e0b : numE ws (i + 1 + 1) = 0
    case neg =>
      have hf : failAt ws (2 * (namedI 3).toNat) (i + 1) = some (i + 1 + 1) := by
        show failAt ws 4 (i + 1) = _
        rw [failAt, if_pos e0a, failAt, if_neg e0b]
      rw [pw_fail hx hv (by decide) hf] at hR
      obtain ⟨rfl, rfl, rfl⟩ : [] = out ∧ i + 1 + 1 = at_ ∧ numE ws (i + 1 + 1) = e := by cases hR; exact ⟨rfl, rfl, rfl⟩
      refine Good.mut (L := [gA, gE]) (Φ' := fun _ u => PB w.heap.size gW gA gE A n n ws y m yc acc (i + 1 + 1) (numE ws (i + 1 + 1)) u ∧ BoxAt u gX [.int .i64 3, .int .i64 (numV ws (i + 1)), .int .i64 0, .int .i64 0, .int .i64 0, .int .i64 0, .int .i64 0] ∧ litG 52 #[.pointer (some ⟨gX, 1, none⟩), .pointer (some ⟨gX, 3, none⟩), .pointer (some ⟨gX, 5, none⟩)] ga u ∧ litG 54 #[.pointer (some ⟨gX, 1, none⟩), .pointer (some ⟨gX, 2, none⟩)] gb0 u) (fun w1 hw h => next_v (i' := i + 1 + 1) (e' := numE ws (i + 1 + 1)) hw h.1 D (show i + 1 + 1 ≤ n from by omega) (by omega) hmem (if_neg e0b) rfl rfl) (fun u h => PB.own h.1 D) (fun _ wa u e1 e2 h hG => ⟨PB.mutAE h.1 D e2 hG, BoxAt.left h.2.1 e2 (by simp [xa, xe]), lit_left h.2.2.1 e2 (by simp [gaA, gaE]), lit_left h.2.2.2 e2 (by simp [hgb0.1, hgb0.2.1])⟩) (by kernel_rfl) (by kernel_rfl) (fun _ => ?_)
      refine Good.run (by kernel_rfl) (stop := 1000) 1000 _ ?_
      refine Good.mutSt (L := [gX]) (G := fun u => BoxAt u gX [.int .i64 3, .int .i64 (numV ws (i + 1)), .int .i64 (numV ws (i + 1 + 1)), .int .i64 0, .int .i64 0, .int .i64 0, .int .i64 0]) (Φ' := fun u => PB w.heap.size gW gA gE A n n ws y m yc acc (i + 1 + 1) (numE ws (i + 1 + 1)) u ∧ BoxAt u gX [.int .i64 3, .int .i64 (numV ws (i + 1)), .int .i64 (numV ws (i + 1 + 1)), .int .i64 0, .int .i64 0, .int .i64 0, .int .i64 0] ∧ litG 52 #[.pointer (some ⟨gX, 1, none⟩), .pointer (some ⟨gX, 3, none⟩), .pointer (some ⟨gX, 5, none⟩)] ga u ∧ litG 54 #[.pointer (some ⟨gX, 1, none⟩), .pointer (some ⟨gX, 2, none⟩)] gb0 u) (stS 3 ⟨gX, 2, none⟩ (.int .i64 (numV ws (i + 1 + 1)))) (fun w1 hw h => h.2.1.store1 (by kernel_rfl) rfl (by simp) rfl) (fun u h b hb => by obtain rfl : b = gX := by { simpa using hb }; exact ⟨lx, h.2.1.own⟩) (fun wa u e1 e2 h hG => ⟨PB.mutX h.1 hX e2, hG, lit_left h.2.2.1 e2 (by simp [gaX]), lit_left h.2.2.2 e2 (by simp [hgb0.2.2])⟩) (by kernel_rfl) (by kernel_rfl) ?_
      refine Good.run (by kernel_rfl) (stop := 1000) 1000 _ ?_
      refine Good.ask (ldS 24 ⟨gE, 0, none⟩) (.int .i64 (numE ws (i + 1 + 1))) (by kernel_rfl) (fun w1 hw h => run_ldS (by kernel_rfl) (PB.be h.1).one) ?_
      refine Good.run (by kernel_rfl) (stop := 1000) 1000 _ ?_
      refine Good.condr ((numE ws (i + 1 + 1) != 0)) true (by kernel_rfl) (by simpa using e0b) ?_
      refine Good.run (by kernel_rfl) (stop := 1000) 1000 _ ?_
      refine Good.askAt 0 (ldS 3 ⟨gA, 0, none⟩) (.int .i64 ((i + 1 + 1 : Nat) : Int)) (by kernel_rfl) (fun w1 hw h => run_ldS (by kernel_rfl) (PB.ba h.1).one) ?_
      refine Good.run (by kernel_rfl) (stop := 1000) 1000 _ ?_
      refine Good.askAt 1 (ldS 24 ⟨gE, 0, none⟩) (.int .i64 (numE ws (i + 1 + 1))) (by kernel_rfl) (fun w1 hw h => run_ldS (by kernel_rfl) (PB.be h.1).one) ?_
      refine Good.run (by kernel_rfl) (stop := 1000) 1000 _ ?_
      refine Good.leave (by kernel_rfl) ?_
      refine Good.run (by kernel_rfl) (stop := 1000) 1000 _ ?_
      refine Good.ret (v := .tuple #[.slice none 0 0, .int .i64 ((i + 1 + 1 : Nat) : Int), .int .i64 (numE ws (i + 1 + 1))]) (by kernel_rfl) (fun w1 hw h => ⟨(none, 0), rfl, hw, fun _ _ _ => ⟨rfl, fun k s hk => by simp at hk⟩⟩)
    have hlt01 : i + 1 + 1 < n := by
      rcases Nat.lt_or_ge (i + 1 + 1) n with h1 | h1
      · exact h1
      · rw [numE, List.getElem?_eq_none (by omega)] at e0b; exact absurd e0b (by decide)
    refine Good.mut (L := [gA, gE]) (Φ' := fun _ u => PB w.heap.size gW gA gE A n n ws y m yc acc (i + 1 + 1 + 1) (0) u ∧ BoxAt u gX [.int .i64 3, .int .i64 (numV ws (i + 1)), .int .i64 0, .int .i64 0, .int .i64 0, .int .i64 0, .int .i64 0] ∧ litG 52 #[.pointer (some ⟨gX, 1, none⟩), .pointer (some ⟨gX, 3, none⟩), .pointer (some ⟨gX, 5, none⟩)] ga u ∧ litG 54 #[.pointer (some ⟨gX, 1, none⟩), .pointer (some ⟨gX, 2, none⟩)] gb0 u) (fun w1 hw h => next_v (i' := i + 1 + 1 + 1) (e' := 0) hw h.1 D (show i + 1 + 1 ≤ n from by omega) (by omega) hmem (if_pos e0b) e0b rfl) (fun u h => PB.own h.1 D) (fun _ wa u e1 e2 h hG => ⟨PB.mutAE h.1 D e2 hG, BoxAt.left h.2.1 e2 (by simp [xa, xe]), lit_left h.2.2.1 e2 (by simp [gaA, gaE]), lit_left h.2.2.2 e2 (by simp [hgb0.1, hgb0.2.1])⟩) (by kernel_rfl) (by kernel_rfl) (fun _ => ?_)
    refine Good.run (by kernel_rfl) (stop := 1000) 1000 _ ?_
    refine Good.mutSt (L := [gX]) (G := fun u => BoxAt u gX [.int .i64 3, .int .i64 (numV ws (i + 1)), .int .i64 (numV ws (i + 1 + 1)), .int .i64 0, .int .i64 0, .int .i64 0, .int .i64 0]) (Φ' := fun u => PB w.heap.size gW gA gE A n n ws y m yc acc (i + 1 + 1 + 1) (0) u ∧ BoxAt u gX [.int .i64 3, .int .i64 (numV ws (i + 1)), .int .i64 (numV ws (i + 1 + 1)), .int .i64 0, .int .i64 0, .int .i64 0, .int .i64 0] ∧ litG 52 #[.pointer (some ⟨gX, 1, none⟩), .pointer (some ⟨gX, 3, none⟩), .pointer (some ⟨gX, 5, none⟩)] ga u ∧ litG 54 #[.pointer (some ⟨gX, 1, none⟩), .pointer (some ⟨gX, 2, none⟩)] gb0 u) (stS 3 ⟨gX, 2, none⟩ (.int .i64 (numV ws (i + 1 + 1)))) (fun w1 hw h => h.2.1.store1 (by kernel_rfl) rfl (by simp) rfl) (fun u h b hb => by obtain rfl : b = gX := by { simpa using hb }; exact ⟨lx, h.2.1.own⟩) (fun wa u e1 e2 h hG => ⟨PB.mutX h.1 hX e2, hG, lit_left h.2.2.1 e2 (by simp [gaX]), lit_left h.2.2.2 e2 (by simp [hgb0.2.2])⟩) (by kernel_rfl) (by kernel_rfl) ?_
    refine Good.run (by kernel_rfl) (stop := 1000) 1000 _ ?_
    refine Good.ask (ldS 24 ⟨gE, 0, none⟩) (.int .i64 (0)) (by kernel_rfl) (fun w1 hw h => run_ldS (by kernel_rfl) (PB.be h.1).one) ?_
    refine Good.run (by kernel_rfl) (stop := 1000) 1000 _ ?_
    refine Good.cond false (by kernel_rfl) ?_
    refine Good.run (by kernel_rfl) (stop := 1000) 1000 _ ?_
    refine Good.cond false (by kernel_rfl) ?_
    refine Good.run (by kernel_rfl) (stop := 1000) 1000 _ ?_
    refine Good.cond true (by kernel_rfl) ?_
    refine Good.run (by kernel_rfl) (stop := 1000) 1000 _ ?_
    refine Good.ask (idxS 53 (.slice (some ⟨ga, 0, none⟩) 2 3) (1 : Nat)) (.pointer (some ⟨ga, 1 * 1, none⟩)) (by kernel_rfl) (fun w1 hw h => run_idxN (elem := 52) (by kernel_rfl) (by kernel_rfl) (by decide)) ?_
    refine Good.run (by kernel_rfl) (stop := 1000) 1000 _ ?_
    refine Good.ask (ldS 52 ⟨ga, 1 * 1, none⟩) (.pointer (some ⟨gX, 3, none⟩)) (by kernel_rfl) (fun w1 hw h => run_ldS (by kernel_rfl) (lit_cell h.2.2.1 rfl)) ?_
    refine Good.run (by kernel_rfl) (stop := 1000) 1000 _ ?_
    refine Good.make (litS 55 2 #[(0, .pointer (some ⟨gX, 3, none⟩)), (1, .pointer (some ⟨gX, 4, none⟩))]) (litV 2) (fun g u => litG 54 #[.pointer (some ⟨gX, 3, none⟩), .pointer (some ⟨gX, 4, none⟩)] g u ∧ g ∉ [gA, gE, gX]) (by kernel_rfl) (fun w1 hw h => make_litF (by kernel_rfl) (by intro b hb; simp only [List.mem_cons, List.not_mem_nil, or_false] at hb; rcases hb with rfl | rfl | rfl; exact (PB.ba h.1).lt; exact (PB.be h.1).lt; exact BoxAt.lt h.2.1)) (fun gb1 => ?_)
    refine Good.run (by kernel_rfl) (stop := 1000) 1000 _ ?_
    refine Good.pure_ (p := gb1 ∉ [gA, gE, gX]) (fun u hu h => h.2.2) (by kernel_rfl) (fun hgb1 => ?_)
    simp only [List.mem_cons, List.not_mem_nil, or_false, not_or] at hgb1
    refine Good.un (by kernel_rfl) ?_
    refine Good.run (by kernel_rfl) (stop := 1000) 1000 _ ?_
    refine Good.cond true (by kernel_rfl) ?_
    refine Good.run (by kernel_rfl) (stop := 1000) 1000 _ ?_
    refine Good.ask (idxS 55 (.slice (some ⟨gb1, 0, none⟩) 2 2) (0 : Nat)) (.pointer (some ⟨gb1, 0 * 1, none⟩)) (by kernel_rfl) (fun w1 hw h => run_idxN (elem := 54) (by kernel_rfl) (by kernel_rfl) (by decide)) ?_
    refine Good.run (by kernel_rfl) (stop := 1000) 1000 _ ?_
    refine Good.ask (ldS 54 ⟨gb1, 0 * 1, none⟩) (.pointer (some ⟨gX, 3, none⟩)) (by kernel_rfl) (fun w1 hw h => run_ldS (by kernel_rfl) (lit_cell h.2.1 rfl)) ?_
    refine Good.run (by kernel_rfl) (stop := 1000) 1000 _ ?_
    by_cases e1a : numE ws (i + 1 + 1 + 1) = 0
    case neg =>
      have hf : failAt ws (2 * (namedI 3).toNat) (i + 1) = some (i + 1 + 1 + 1) := by
        show failAt ws 4 (i + 1) = _
        rw [failAt, if_pos e0a, failAt, if_pos e0b, failAt, if_neg e1a]
      rw [pw_fail hx hv (by decide) hf] at hR
      obtain ⟨rfl, rfl, rfl⟩ : [] = out ∧ i + 1 + 1 + 1 = at_ ∧ numE ws (i + 1 + 1 + 1) = e := by cases hR; exact ⟨rfl, rfl, rfl⟩
      refine Good.mut (L := [gA, gE]) (Φ' := fun _ u => PB w.heap.size gW gA gE A n n ws y m yc acc (i + 1 + 1 + 1) (numE ws (i + 1 + 1 + 1)) u ∧ BoxAt u gX [.int .i64 3, .int .i64 (numV ws (i + 1)), .int .i64 (numV ws (i + 1 + 1)), .int .i64 0, .int .i64 0, .int .i64 0, .int .i64 0] ∧ litG 52 #[.pointer (some ⟨gX, 1, none⟩), .pointer (some ⟨gX, 3, none⟩), .pointer (some ⟨gX, 5, none⟩)] ga u ∧ litG 54 #[.pointer (some ⟨gX, 3, none⟩), .pointer (some ⟨gX, 4, none⟩)] gb1 u) (fun w1 hw h => next_v (i' := i + 1 + 1 + 1) (e' := numE ws (i + 1 + 1 + 1)) hw h.1.1 D (show i + 1 + 1 + 1 ≤ n from by omega) (by omega) hmem (if_neg e1a) rfl rfl) (fun u h => PB.own h.1.1 D) (fun _ wa u e1 e2 h hG => ⟨PB.mutAE h.1.1 D e2 hG, BoxAt.left h.1.2.1 e2 (by simp [xa, xe]), lit_left h.1.2.2.1 e2 (by simp [gaA, gaE]), lit_left h.2.1 e2 (by simp [hgb1.1, hgb1.2.1])⟩) (by kernel_rfl) (by kernel_rfl) (fun _ => ?_)
      refine Good.run (by kernel_rfl) (stop := 1000) 1000 _ ?_
      refine Good.mutSt (L := [gX]) (G := fun u => BoxAt u gX [.int .i64 3, .int .i64 (numV ws (i + 1)), .int .i64 (numV ws (i + 1 + 1)), .int .i64 (numV ws (i + 1 + 1 + 1)), .int .i64 0, .int .i64 0, .int .i64 0]) (Φ' := fun u => PB w.heap.size gW gA gE A n n ws y m yc acc (i + 1 + 1 + 1) (numE ws (i + 1 + 1 + 1)) u ∧ BoxAt u gX [.int .i64 3, .int .i64 (numV ws (i + 1)), .int .i64 (numV ws (i + 1 + 1)), .int .i64 (numV ws (i + 1 + 1 + 1)), .int .i64 0, .int .i64 0, .int .i64 0] ∧ litG 52 #[.pointer (some ⟨gX, 1, none⟩), .pointer (some ⟨gX, 3, none⟩), .pointer (some ⟨gX, 5, none⟩)] ga u ∧ litG 54 #[.pointer (some ⟨gX, 3, none⟩), .pointer (some ⟨gX, 4, none⟩)] gb1 u) (stS 3 ⟨gX, 3, none⟩ (.int .i64 (numV ws (i + 1 + 1 + 1)))) (fun w1 hw h => h.2.1.store1 (by kernel_rfl) rfl (by simp) rfl) (fun u h b hb => by obtain rfl : b = gX := by { simpa using hb }; exact ⟨lx, h.2.1.own⟩) (fun wa u e1 e2 h hG => ⟨PB.mutX h.1 hX e2, hG, lit_left h.2.2.1 e2 (by simp [gaX]), lit_left h.2.2.2 e2 (by simp [hgb1.2.2])⟩) (by kernel_rfl) (by kernel_rfl) ?_
      refine Good.run (by kernel_rfl) (stop := 1000) 1000 _ ?_
      refine Good.ask (ldS 24 ⟨gE, 0, none⟩) (.int .i64 (numE ws (i + 1 + 1 + 1))) (by kernel_rfl) (fun w1 hw h => run_ldS (by kernel_rfl) (PB.be h.1).one) ?_
      refine Good.run (by kernel_rfl) (stop := 1000) 1000 _ ?_
      refine Good.condr ((numE ws (i + 1 + 1 + 1) != 0)) true (by kernel_rfl) (by simpa using e1a) ?_
      refine Good.run (by kernel_rfl) (stop := 1000) 1000 _ ?_
      refine Good.askAt 0 (ldS 3 ⟨gA, 0, none⟩) (.int .i64 ((i + 1 + 1 + 1 : Nat) : Int)) (by kernel_rfl) (fun w1 hw h => run_ldS (by kernel_rfl) (PB.ba h.1).one) ?_
      refine Good.run (by kernel_rfl) (stop := 1000) 1000 _ ?_
      refine Good.askAt 1 (ldS 24 ⟨gE, 0, none⟩) (.int .i64 (numE ws (i + 1 + 1 + 1))) (by kernel_rfl) (fun w1 hw h => run_ldS (by kernel_rfl) (PB.be h.1).one) ?_
      refine Good.run (by kernel_rfl) (stop := 1000) 1000 _ ?_
      refine Good.leave (by kernel_rfl) ?_
      refine Good.run (by kernel_rfl) (stop := 1000) 1000 _ ?_
      refine Good.ret (v := .tuple #[.slice none 0 0, .int .i64 ((i + 1 + 1 + 1 : Nat) : Int), .int .i64 (numE ws (i + 1 + 1 + 1))]) (by kernel_rfl) (fun w1 hw h => ⟨(none, 0), rfl, hw, fun _ _ _ => ⟨rfl, fun k s hk => by simp at hk⟩⟩)
    have hlt10 : i + 1 + 1 + 1 < n := by
      rcases Nat.lt_or_ge (i + 1 + 1 + 1) n with h1 | h1
      · exact h1
      · rw [numE, List.getElem?_eq_none (by omega)] at e1a; exact absurd e1a (by decide)
    refine Good.mut (L := [gA, gE]) (Φ' := fun _ u => PB w.heap.size gW gA gE A n n ws y m yc acc (i + 1 + 1 + 1 + 1) (0) u ∧ BoxAt u gX [.int .i64 3, .int .i64 (numV ws (i + 1)), .int .i64 (numV ws (i + 1 + 1)), .int .i64 0, .int .i64 0, .int .i64 0, .int .i64 0] ∧ litG 52 #[.pointer (some ⟨gX, 1, none⟩), .pointer (some ⟨gX, 3, none⟩), .pointer (some ⟨gX, 5, none⟩)] ga u ∧ litG 54 #[.pointer (some ⟨gX, 3, none⟩), .pointer (some ⟨gX, 4, none⟩)] gb1 u) (fun w1 hw h => next_v (i' := i + 1 + 1 + 1 + 1) (e' := 0) hw h.1.1 D (show i + 1 + 1 + 1 ≤ n from by omega) (by omega) hmem (if_pos e1a) e1a rfl) (fun u h => PB.own h.1.1 D) (fun _ wa u e1 e2 h hG => ⟨PB.mutAE h.1.1 D e2 hG, BoxAt.left h.1.2.1 e2 (by simp [xa, xe]), lit_left h.1.2.2.1 e2 (by simp [gaA, gaE]), lit_left h.2.1 e2 (by simp [hgb1.1, hgb1.2.1])⟩) (by kernel_rfl) (by kernel_rfl) (fun _ => ?_)
    refine Good.run (by kernel_rfl) (stop := 1000) 1000 _ ?_
    refine Good.mutSt (L := [gX]) (G := fun u => BoxAt u gX [.int .i64 3, .int .i64 (numV ws (i + 1)), .int .i64 (numV ws (i + 1 + 1)), .int .i64 (numV ws (i + 1 + 1 + 1)), .int .i64 0, .int .i64 0, .int .i64 0]) (Φ' := fun u => PB w.heap.size gW gA gE A n n ws y m yc acc (i + 1 + 1 + 1 + 1) (0) u ∧ BoxAt u gX [.int .i64 3, .int .i64 (numV ws (i + 1)), .int .i64 (numV ws (i + 1 + 1)), .int .i64 (numV ws (i + 1 + 1 + 1)), .int .i64 0, .int .i64 0, .int .i64 0] ∧ litG 52 #[.pointer (some ⟨gX, 1, none⟩), .pointer (some ⟨gX, 3, none⟩), .pointer (some ⟨gX, 5, none⟩)] ga u ∧ litG 54 #[.pointer (some ⟨gX, 3, none⟩), .pointer (some ⟨gX, 4, none⟩)] gb1 u) (stS 3 ⟨gX, 3, none⟩ (.int .i64 (numV ws (i + 1 + 1 + 1)))) (fun w1 hw h => h.2.1.store1 (by kernel_rfl) rfl (by simp) rfl) (fun u h b hb => by obtain rfl : b = gX := by { simpa using hb }; exact ⟨lx, h.2.1.own⟩) (fun wa u e1 e2 h hG => ⟨PB.mutX h.1 hX e2, hG, lit_left h.2.2.1 e2 (by simp [gaX]), lit_left h.2.2.2 e2 (by simp [hgb1.2.2])⟩) (by kernel_rfl) (by kernel_rfl) ?_
    refine Good.run (by kernel_rfl) (stop := 1000) 1000 _ ?_
    refine Good.ask (ldS 24 ⟨gE, 0, none⟩) (.int .i64 (0)) (by kernel_rfl) (fun w1 hw h => run_ldS (by kernel_rfl) (PB.be h.1).one) ?_
    refine Good.run (by kernel_rfl) (stop := 1000) 1000 _ ?_
    refine Good.cond false (by kernel_rfl) ?_
    refine Good.run (by kernel_rfl) (stop := 1000) 1000 _ ?_
    refine Good.cond true (by kernel_rfl) ?_
    refine Good.run (by kernel_rfl) (stop := 1000) 1000 _ ?_
    refine Good.ask (idxS 55 (.slice (some ⟨gb1, 0, none⟩) 2 2) (1 : Nat)) (.pointer (some ⟨gb1, 1 * 1, none⟩)) (by kernel_rfl) (fun w1 hw h => run_idxN (elem := 54) (by kernel_rfl) (by kernel_rfl) (by decide)) ?_
    refine Good.run (by kernel_rfl) (stop := 1000) 1000 _ ?_
    refine Good.ask (ldS 54 ⟨gb1, 1 * 1, none⟩) (.pointer (some ⟨gX, 4, none⟩)) (by kernel_rfl) (fun w1 hw h => run_ldS (by kernel_rfl) (lit_cell h.2.2.2 rfl)) ?_
    refine Good.run (by kernel_rfl) (stop := 1000) 1000 _ ?_
    by_cases e1b : numE ws (i + 1 + 1 + 1 + 1) = 0
    case neg =>
      have hf : failAt ws (2 * (namedI 3).toNat) (i + 1) = some (i + 1 + 1 + 1 + 1) := by
        show failAt ws 4 (i + 1) = _
        rw [failAt, if_pos e0a, failAt, if_pos e0b, failAt, if_pos e1a, failAt, if_neg e1b]
      rw [pw_fail hx hv (by decide) hf] at hR
      obtain ⟨rfl, rfl, rfl⟩ : [] = out ∧ i + 1 + 1 + 1 + 1 = at_ ∧ numE ws (i + 1 + 1 + 1 + 1) = e := by cases hR; exact ⟨rfl, rfl, rfl⟩
      refine Good.mut (L := [gA, gE]) (Φ' := fun _ u => PB w.heap.size gW gA gE A n n ws y m yc acc (i + 1 + 1 + 1 + 1) (numE ws (i + 1 + 1 + 1 + 1)) u ∧ BoxAt u gX [.int .i64 3, .int .i64 (numV ws (i + 1)), .int .i64 (numV ws (i + 1 + 1)), .int .i64 (numV ws (i + 1 + 1 + 1)), .int .i64 0, .int .i64 0, .int .i64 0] ∧ litG 52 #[.pointer (some ⟨gX, 1, none⟩), .pointer (some ⟨gX, 3, none⟩), .pointer (some ⟨gX, 5, none⟩)] ga u ∧ litG 54 #[.pointer (some ⟨gX, 3, none⟩), .pointer (some ⟨gX, 4, none⟩)] gb1 u) (fun w1 hw h => next_v (i' := i + 1 + 1 + 1 + 1) (e' := numE ws (i + 1 + 1 + 1 + 1)) hw h.1 D (show i + 1 + 1 + 1 + 1 ≤ n from by omega) (by omega) hmem (if_neg e1b) rfl rfl) (fun u h => PB.own h.1 D) (fun _ wa u e1 e2 h hG => ⟨PB.mutAE h.1 D e2 hG, BoxAt.left h.2.1 e2 (by simp [xa, xe]), lit_left h.2.2.1 e2 (by simp [gaA, gaE]), lit_left h.2.2.2 e2 (by simp [hgb1.1, hgb1.2.1])⟩) (by kernel_rfl) (by kernel_rfl) (fun _ => ?_)
      refine Good.run (by kernel_rfl) (stop := 1000) 1000 _ ?_
      refine Good.mutSt (L := [gX]) (G := fun u => BoxAt u gX [.int .i64 3, .int .i64 (numV ws (i + 1)), .int .i64 (numV ws (i + 1 + 1)), .int .i64 (numV ws (i + 1 + 1 + 1)), .int .i64 (numV ws (i + 1 + 1 + 1 + 1)), .int .i64 0, .int .i64 0]) (Φ' := fun u => PB w.heap.size gW gA gE A n n ws y m yc acc (i + 1 + 1 + 1 + 1) (numE ws (i + 1 + 1 + 1 + 1)) u ∧ BoxAt u gX [.int .i64 3, .int .i64 (numV ws (i + 1)), .int .i64 (numV ws (i + 1 + 1)), .int .i64 (numV ws (i + 1 + 1 + 1)), .int .i64 (numV ws (i + 1 + 1 + 1 + 1)), .int .i64 0, .int .i64 0] ∧ litG 52 #[.pointer (some ⟨gX, 1, none⟩), .pointer (some ⟨gX, 3, none⟩), .pointer (some ⟨gX, 5, none⟩)] ga u ∧ litG 54 #[.pointer (some ⟨gX, 3, none⟩), .pointer (some ⟨gX, 4, none⟩)] gb1 u) (stS 3 ⟨gX, 4, none⟩ (.int .i64 (numV ws (i + 1 + 1 + 1 + 1)))) (fun w1 hw h => h.2.1.store1 (by kernel_rfl) rfl (by simp) rfl) (fun u h b hb => by obtain rfl : b = gX := by { simpa using hb }; exact ⟨lx, h.2.1.own⟩) (fun wa u e1 e2 h hG => ⟨PB.mutX h.1 hX e2, hG, lit_left h.2.2.1 e2 (by simp [gaX]), lit_left h.2.2.2 e2 (by simp [hgb1.2.2])⟩) (by kernel_rfl) (by kernel_rfl) ?_
      refine Good.run (by kernel_rfl) (stop := 1000) 1000 _ ?_
      refine Good.ask (ldS 24 ⟨gE, 0, none⟩) (.int .i64 (numE ws (i + 1 + 1 + 1 + 1))) (by kernel_rfl) (fun w1 hw h => run_ldS (by kernel_rfl) (PB.be h.1).one) ?_
      refine Good.run (by kernel_rfl) (stop := 1000) 1000 _ ?_
      refine Good.condr ((numE ws (i + 1 + 1 + 1 + 1) != 0)) true (by kernel_rfl) (by simpa using e1b) ?_
      refine Good.run (by kernel_rfl) (stop := 1000) 1000 _ ?_
      refine Good.askAt 0 (ldS 3 ⟨gA, 0, none⟩) (.int .i64 ((i + 1 + 1 + 1 + 1 : Nat) : Int)) (by kernel_rfl) (fun w1 hw h => run_ldS (by kernel_rfl) (PB.ba h.1).one) ?_
      refine Good.run (by kernel_rfl) (stop := 1000) 1000 _ ?_
      refine Good.askAt 1 (ldS 24 ⟨gE, 0, none⟩) (.int .i64 (numE ws (i + 1 + 1 + 1 + 1))) (by kernel_rfl) (fun w1 hw h => run_ldS (by kernel_rfl) (PB.be h.1).one) ?_
      refine Good.run (by kernel_rfl) (stop := 1000) 1000 _ ?_
      refine Good.leave (by kernel_rfl) ?_
      refine Good.run (by kernel_rfl) (stop := 1000) 1000 _ ?_
      refine Good.ret (v := .tuple #[.slice none 0 0, .int .i64 ((i + 1 + 1 + 1 + 1 : Nat) : Int), .int .i64 (numE ws (i + 1 + 1 + 1 + 1))]) (by kernel_rfl) (fun w1 hw h => ⟨(none, 0), rfl, hw, fun _ _ _ => ⟨rfl, fun k s hk => by simp at hk⟩⟩)
    have hlt11 : i + 1 + 1 + 1 + 1 < n := by
      rcases Nat.lt_or_ge (i + 1 + 1 + 1 + 1) n with h1 | h1
      · exact h1
      · rw [numE, List.getElem?_eq_none (by omega)] at e1b; exact absurd e1b (by decide)
    refine Good.mut (L := [gA, gE]) (Φ' := fun _ u => PB w.heap.size gW gA gE A n n ws y m yc acc (i + 1 + 1 + 1 + 1 + 1) (0) u ∧ BoxAt u gX [.int .i64 3, .int .i64 (numV ws (i + 1)), .int .i64 (numV ws (i + 1 + 1)), .int .i64 (numV ws (i + 1 + 1 + 1)), .int .i64 0, .int .i64 0, .int .i64 0] ∧ litG 52 #[.pointer (some ⟨gX, 1, none⟩), .pointer (some ⟨gX, 3, none⟩), .pointer (some ⟨gX, 5, none⟩)] ga u ∧ litG 54 #[.pointer (some ⟨gX, 3, none⟩), .pointer (some ⟨gX, 4, none⟩)] gb1 u) (fun w1 hw h => next_v (i' := i + 1 + 1 + 1 + 1 + 1) (e' := 0) hw h.1 D (show i + 1 + 1 + 1 + 1 ≤ n from by omega) (by omega) hmem (if_pos e1b) e1b rfl) (fun u h => PB.own h.1 D) (fun _ wa u e1 e2 h hG => ⟨PB.mutAE h.1 D e2 hG, BoxAt.left h.2.1 e2 (by simp [xa, xe]), lit_left h.2.2.1 e2 (by simp [gaA, gaE]), lit_left h.2.2.2 e2 (by simp [hgb1.1, hgb1.2.1])⟩) (by kernel_rfl) (by kernel_rfl) (fun _ => ?_)
    refine Good.run (by kernel_rfl) (stop := 1000) 1000 _ ?_
    refine Good.mutSt (L := [gX]) (G := fun u => BoxAt u gX [.int .i64 3, .int .i64 (numV ws (i + 1)), .int .i64 (numV ws (i + 1 + 1)), .int .i64 (numV ws (i + 1 + 1 + 1)), .int .i64 (numV ws (i + 1 + 1 + 1 + 1)), .int .i64 0, .int .i64 0]) (Φ' := fun u => PB w.heap.size gW gA gE A n n ws y m yc acc (i + 1 + 1 + 1 + 1 + 1) (0) u ∧ BoxAt u gX [.int .i64 3, .int .i64 (numV ws (i + 1)), .int .i64 (numV ws (i + 1 + 1)), .int .i64 (numV ws (i + 1 + 1 + 1)), .int .i64 (numV ws (i + 1 + 1 + 1 + 1)), .int .i64 0, .int .i64 0] ∧ litG 52 #[.pointer (some ⟨gX, 1, none⟩), .pointer (some ⟨gX, 3, none⟩), .pointer (some ⟨gX, 5, none⟩)] ga u ∧ litG 54 #[.pointer (some ⟨gX, 3, none⟩), .pointer (some ⟨gX, 4, none⟩)] gb1 u) (stS 3 ⟨gX, 4, none⟩ (.int .i64 (numV ws (i + 1 + 1 + 1 + 1)))) (fun w1 hw h => h.2.1.store1 (by kernel_rfl) rfl (by simp) rfl) (fun u h b hb => by obtain rfl : b = gX := by { simpa using hb }; exact ⟨lx, h.2.1.own⟩) (fun wa u e1 e2 h hG => ⟨PB.mutX h.1 hX e2, hG, lit_left h.2.2.1 e2 (by simp [gaX]), lit_left h.2.2.2 e2 (by simp [hgb1.2.2])⟩) (by kernel_rfl) (by kernel_rfl) ?_
    refine Good.run (by kernel_rfl) (stop := 1000) 1000 _ ?_
    refine Good.ask (ldS 24 ⟨gE, 0, none⟩) (.int .i64 (0)) (by kernel_rfl) (fun w1 hw h => run_ldS (by kernel_rfl) (PB.be h.1).one) ?_
    refine Good.run (by kernel_rfl) (stop := 1000) 1000 _ ?_
    refine Good.cond false (by kernel_rfl) ?_
    refine Good.run (by kernel_rfl) (stop := 1000) 1000 _ ?_
    refine Good.cond false (by kernel_rfl) ?_
    refine Good.run (by kernel_rfl) (stop := 1000) 1000 _ ?_
    refine Good.cond false (by kernel_rfl) ?_
    refine Good.run (by kernel_rfl) (stop := 1000) 1000 _ ?_
    have hf : failAt ws (2 * (namedI 3).toNat) (i + 1) = none := by
      show failAt ws 4 (i + 1) = _
      rw [failAt, if_pos e0a, failAt, if_pos e0b, failAt, if_pos e1a, failAt, if_pos e1b, failAt]
    rw [pw_step hx hv (by decide) hf] at hR
    refine Good.ask (ldS 41 ⟨gX, 0, none⟩) (Sg.val ⟨3, numV ws (i + 1), numV ws (i + 1 + 1), numV ws (i + 1 + 1 + 1), numV ws (i + 1 + 1 + 1 + 1), 0, 0⟩) (by kernel_rfl) (fun w1 hw h => run_ldN (vs := Sg.cl ⟨3, numV ws (i + 1), numV ws (i + 1 + 1), numV ws (i + 1 + 1 + 1), numV ws (i + 1 + 1 + 1 + 1), 0, 0⟩) (by kernel_rfl) (by kernel_rfl) (BoxAt.range h.2.1)) ?_
    refine Good.run (by kernel_rfl) (stop := 1000) 1000 _ ?_
    refine Good.make (litS 22 1 #[(0, Sg.val ⟨3, numV ws (i + 1), numV ws (i + 1 + 1), numV ws (i + 1 + 1 + 1), numV ws (i + 1 + 1 + 1 + 1), 0, 0⟩)]) (litV 1) (litG 41 (Sg.cl ⟨3, numV ws (i + 1), numV ws (i + 1 + 1), numV ws (i + 1 + 1 + 1), numV ws (i + 1 + 1 + 1 + 1), 0, 0⟩).toArray) (by kernel_rfl) (fun w1 hw h => make_lit (by kernel_rfl)) (fun gb => ?_)
    refine Good.run (by kernel_rfl) (stop := 3) 1000 _ ?_
    refine Good.mutOp (L := bl y) (val := fun (z : Option Addr × Nat) => .slice z.1 (m + 1) z.2) (Φ' := fun (z : Option Addr × Nat) u => PB w.heap.size gW gA gE A n n ws z.1 (m + 1) z.2 (acc ++ [Sg.mk 3 (numV ws (i + 1)) (numV ws (i + 1 + 1)) (numV ws (i + 1 + 1 + 1)) (numV ws (i + 1 + 1 + 1 + 1)) 0 0]) (i + 1 + 1 + 1 + 1 + 1) 0 u) (G := fun (z : Option Addr × Nat) vv => OwnR vv w.heap.size 41 7 z.1 (m + 1) z.2 (gv (acc ++ [Sg.mk 3 (numV ws (i + 1)) (numV ws (i + 1 + 1)) (numV ws (i + 1 + 1 + 1)) (numV ws (i + 1 + 1 + 1 + 1)) 0 0]))) (appS 22 22 (.slice y m yc) (litV 1 gb)) (fun w1 hw h => app_seg (PB.ow h.1.1) hw.size h.2 (show m < 1000000 from by omega)) (fun w1 h => fun b hb => ⟨((PB.ow h.1.1).lt b hb).1, ((PB.ow h.1.1).blk b hb).2⟩) (fun z wa w1 e1 e2 h hG => PB.app h.1.1 D e2 hG) (by kernel_rfl) (by kernel_rfl) (fun z => ?_)
    refine Good.run (by kernel_rfl) (stop := 1000) 1000 _ ?_
    refine Good.next (⟨((i + 1 + 1 + 1 + 1 + 1, m + 1, acc ++ [Sg.mk 3 (numV ws (i + 1)) (numV ws (i + 1 + 1)) (numV ws (i + 1 + 1 + 1)) (numV ws (i + 1 + 1 + 1 + 1)) 0 0]), z), by show i + 1 + 1 + 1 + 1 + 1 ≤ n; omega, by show m + 1 ≤ i + 1 + 1 + 1 + 1 + 1; omega, by show (acc ++ _).length = m + 1; rw [List.length_append, hacc]; rfl, fun h => absurd (show m + 1 = 0 from h) (by omega), hR⟩) (by kernel_rfl) (by show n - (i + 1 + 1 + 1 + 1 + 1) < n - i; omega) ⟨by kernel_rfl, by kernel_rfl, by kernel_rfl⟩ (fun u h => h)
  ·
    refine Good.callv (fun w1 hw h => verb_m hv) (by kernel_rfl) (fun u => ?_)
    refine Good.run (by kernel_rfl) (stop := 6) 1000 _ ?_
    refine Good.make (allS 41) (ptr) (fun g u => BoxAt u g [.int .i64 0, .int .i64 0, .int .i64 0, .int .i64 0, .int .i64 0, .int .i64 0, .int .i64 0] ∧ w.heap.size ≤ g ∧ g ∉ gW :: gA :: gE :: (bl A ++ bl y)) (by kernel_rfl) (fun w1 hw h => make_allF (z := Sg.val ⟨0, 0, 0, 0, 0, 0, 0⟩) (by kernel_rfl) hw.size (PB.lts h.1 (hAlt _ h.1))) (fun gX => ?_)
    refine Good.run (by kernel_rfl) (stop := 1000) 1000 _ ?_
    refine Good.pure_ (p := w.heap.size ≤ gX ∧ gX ∉ gW :: gA :: gE :: (bl A ++ bl y)) (fun u hu h => h.2.2) (by kernel_rfl) (fun hp => ?_)
    obtain ⟨lx, hX⟩ := hp
    have hX2 := hX
    simp only [List.mem_cons, List.mem_append, not_or] at hX2
    obtain ⟨xw, xa, xe, xs, xy⟩ := hX2
    refine Good.mutSt (L := [gX]) (G := fun u => BoxAt u gX [.int .i64 4, .int .i64 0, .int .i64 0, .int .i64 0, .int .i64 0, .int .i64 0, .int .i64 0]) (Φ' := fun u => PB w.heap.size gW gA gE A n n ws y m yc acc (i) (0) u ∧ BoxAt u gX [.int .i64 4, .int .i64 0, .int .i64 0, .int .i64 0, .int .i64 0, .int .i64 0, .int .i64 0]) (stS 41 ⟨gX, 0, none⟩ (Sg.val ⟨4, 0, 0, 0, 0, 0, 0⟩)) (fun w1 hw h => h.2.1.store (by kernel_rfl) rfl (by intro u hu; simp [Value.cells] at hu; rcases hu with rfl | rfl <;> rfl)) (fun u h b hb => by obtain rfl : b = gX := by { simpa using hb }; exact ⟨lx, h.2.1.own⟩) (fun wa u e1 e2 h hG => ⟨PB.mutX h.1.1 hX e2, hG⟩) (by kernel_rfl) (by kernel_rfl) ?_
    refine Good.run (by kernel_rfl) (stop := 1000) 1000 _ ?_
    refine Good.ask (ldS 3 ⟨gX, 0, none⟩) (.int .i64 4) (by kernel_rfl) (fun w1 hw h => run_ldS (by kernel_rfl) (h.2.cell)) ?_
    refine Good.run (by kernel_rfl) (stop := 1000) 1000 _ ?_
    refine Good.cond false (by kernel_rfl) ?_
    refine Good.run (by kernel_rfl) (stop := 1000) 1000 _ ?_
    refine Good.ask (ldS 3 ⟨gA, 0, none⟩) (.int .i64 i) (by kernel_rfl) (fun w1 hw h => run_ldS (by kernel_rfl) (PB.ba h.1).one) ?_
    refine Good.run (by kernel_rfl) (stop := 1000) 1000 _ ?_
    refine Good.slot 41 (.int .i64 (IntKind.i64.wrap ((i : Int) + 1))) (.int .i64 ((i + 1 : Nat) : Int)) (by kernel_rfl) (by rw [wrap_succ hlt (by omega)]) ?_
    refine Good.mutSt (L := [gA]) (G := fun u => BoxAt u gA [.int .i64 ((i + 1 : Nat) : Int)]) (Φ' := fun u => PB w.heap.size gW gA gE A n n ws y m yc acc (i + 1) (0) u ∧ BoxAt u gX [.int .i64 4, .int .i64 0, .int .i64 0, .int .i64 0, .int .i64 0, .int .i64 0, .int .i64 0]) (stS 3 ⟨gA, 0, none⟩ (.int .i64 ((i + 1 : Nat) : Int))) (fun w1 hw h => (PB.ba h.1).store (by kernel_rfl) rfl (by intro u hu; simp [Value.cells] at hu; subst hu; rfl)) (fun u h b hb => by obtain rfl : b = gA := by { simpa using hb }; exact ⟨la, (PB.ba h.1).own⟩) (fun wa u e1 e2 h hG => ⟨PB.mutA h.1 D e2 hG, h.2.left e2 (by simp [xa])⟩) (by kernel_rfl) (by kernel_rfl) ?_
    refine Good.run (by kernel_rfl) (stop := 1000) 1000 _ ?_
    refine Good.make (litS 53 3 #[(0, .pointer (some ⟨gX, 1, none⟩)), (1, .pointer (some ⟨gX, 3, none⟩)), (2, .pointer (some ⟨gX, 5, none⟩))]) (litV 3) (fun g u => litG 52 #[.pointer (some ⟨gX, 1, none⟩), .pointer (some ⟨gX, 3, none⟩), .pointer (some ⟨gX, 5, none⟩)] g u ∧ g ∉ [gA, gE, gX]) (by kernel_rfl) (fun w1 hw h => make_litF (by kernel_rfl) (by intro b hb; simp only [List.mem_cons, List.not_mem_nil, or_false] at hb; rcases hb with rfl | rfl | rfl; exact (PB.ba h.1).lt; exact (PB.be h.1).lt; exact h.2.lt)) (fun ga => ?_)
    refine Good.run (by kernel_rfl) (stop := 1000) 1000 _ ?_
    refine Good.pure_ (p := ga ∉ [gA, gE, gX]) (fun u hu h => h.2.2) (by kernel_rfl) (fun hga => ?_)
    have hga2 := hga
    simp only [List.mem_cons, List.not_mem_nil, or_false, not_or] at hga2
    obtain ⟨gaA, gaE, gaX⟩ := hga2
    refine Good.ask (ldS 3 ⟨gX, 0, none⟩) (.int .i64 4) (by kernel_rfl) (fun w1 hw h => run_ldS (by kernel_rfl) (h.1.2.cell)) ?_
    refine Good.run (by kernel_rfl) (stop := 1000) 1000 _ ?_
    refine Good.callv (fun w1 hw h => points_m (v := 4) (r := 3) (by decide) rfl) (by kernel_rfl) (fun u => ?_)
    refine Good.run (by kernel_rfl) (stop := 4) 1000 _ ?_
    refine Good.ask (slH 53 (.slice (some ⟨ga, 0, none⟩) 3 3) (3 : Nat)) (.slice (some ⟨ga, 0, none⟩) 3 3) (by kernel_rfl) (fun w1 hw h => run_slH (e := 52) (by kernel_rfl) (by kernel_rfl) (by kernel_rfl) (by decide)) ?_
    refine Good.run (by kernel_rfl) (stop := 1000) 1000 _ ?_
    refine Good.un (by kernel_rfl) ?_
    refine Good.run (by kernel_rfl) (stop := 1000) 1000 _ ?_
    refine Good.cond true (by kernel_rfl) ?_
    refine Good.run (by kernel_rfl) (stop := 1000) 1000 _ ?_
    refine Good.ask (idxS 53 (.slice (some ⟨ga, 0, none⟩) 3 3) (0 : Nat)) (.pointer (some ⟨ga, 0 * 1, none⟩)) (by kernel_rfl) (fun w1 hw h => run_idxN (elem := 52) (by kernel_rfl) (by kernel_rfl) (by decide)) ?_
    refine Good.run (by kernel_rfl) (stop := 1000) 1000 _ ?_
    refine Good.ask (ldS 52 ⟨ga, 0 * 1, none⟩) (.pointer (some ⟨gX, 1, none⟩)) (by kernel_rfl) (fun w1 hw h => run_ldS (by kernel_rfl) (lit_cell h.1.2.1 rfl)) ?_
    refine Good.run (by kernel_rfl) (stop := 1000) 1000 _ ?_
    refine Good.make (litS 55 2 #[(0, .pointer (some ⟨gX, 1, none⟩)), (1, .pointer (some ⟨gX, 2, none⟩))]) (litV 2) (fun g u => litG 54 #[.pointer (some ⟨gX, 1, none⟩), .pointer (some ⟨gX, 2, none⟩)] g u ∧ g ∉ [gA, gE, gX]) (by kernel_rfl) (fun w1 hw h => make_litF (by kernel_rfl) (by intro b hb; simp only [List.mem_cons, List.not_mem_nil, or_false] at hb; rcases hb with rfl | rfl | rfl; exact (PB.ba h.1.1.1).lt; exact (PB.be h.1.1.1).lt; exact BoxAt.lt h.1.1.2)) (fun gb0 => ?_)
    refine Good.run (by kernel_rfl) (stop := 1000) 1000 _ ?_
    refine Good.pure_ (p := gb0 ∉ [gA, gE, gX]) (fun u hu h => h.2.2) (by kernel_rfl) (fun hgb0 => ?_)
    simp only [List.mem_cons, List.not_mem_nil, or_false, not_or] at hgb0
    refine Good.un (by kernel_rfl) ?_
    refine Good.run (by kernel_rfl) (stop := 1000) 1000 _ ?_
    refine Good.cond true (by kernel_rfl) ?_
    refine Good.run (by kernel_rfl) (stop := 1000) 1000 _ ?_
    refine Good.ask (idxS 55 (.slice (some ⟨gb0, 0, none⟩) 2 2) (0 : Nat)) (.pointer (some ⟨gb0, 0 * 1, none⟩)) (by kernel_rfl) (fun w1 hw h => run_idxN (elem := 54) (by kernel_rfl) (by kernel_rfl) (by decide)) ?_
    refine Good.run (by kernel_rfl) (stop := 1000) 1000 _ ?_
    refine Good.ask (ldS 54 ⟨gb0, 0 * 1, none⟩) (.pointer (some ⟨gX, 1, none⟩)) (by kernel_rfl) (fun w1 hw h => run_ldS (by kernel_rfl) (lit_cell h.2.1 rfl)) ?_
    refine Good.run (by kernel_rfl) (stop := 1000) 1000 _ ?_
    by_cases e0a : numE ws (i + 1) = 0
    case neg =>
      have hf : failAt ws (2 * (namedI 4).toNat) (i + 1) = some (i + 1) := by
        show failAt ws 6 (i + 1) = _
        rw [failAt, if_neg e0a]
      rw [pw_fail hx hv (by decide) hf] at hR
      obtain ⟨rfl, rfl, rfl⟩ : [] = out ∧ i + 1 = at_ ∧ numE ws (i + 1) = e := by cases hR; exact ⟨rfl, rfl, rfl⟩
      refine Good.mut (L := [gA, gE]) (Φ' := fun _ u => PB w.heap.size gW gA gE A n n ws y m yc acc (i + 1) (numE ws (i + 1)) u ∧ BoxAt u gX [.int .i64 4, .int .i64 0, .int .i64 0, .int .i64 0, .int .i64 0, .int .i64 0, .int .i64 0] ∧ litG 52 #[.pointer (some ⟨gX, 1, none⟩), .pointer (some ⟨gX, 3, none⟩), .pointer (some ⟨gX, 5, none⟩)] ga u ∧ litG 54 #[.pointer (some ⟨gX, 1, none⟩), .pointer (some ⟨gX, 2, none⟩)] gb0 u) (fun w1 hw h => next_v (i' := i + 1) (e' := numE ws (i + 1)) hw h.1.1.1.1 D (show i + 1 ≤ n from by omega) (by omega) hmem (if_neg e0a) rfl rfl) (fun u h => PB.own h.1.1.1.1 D) (fun _ wa u e1 e2 h hG => ⟨PB.mutAE h.1.1.1.1 D e2 hG, BoxAt.left h.1.1.1.2 e2 (by simp [xa, xe]), lit_left h.1.1.2.1 e2 (by simp [gaA, gaE]), lit_left h.2.1 e2 (by simp [hgb0.1, hgb0.2.1])⟩) (by kernel_rfl) (by kernel_rfl) (fun _ => ?_)
      refine Good.run (by kernel_rfl) (stop := 1000) 1000 _ ?_
      refine Good.mutSt (L := [gX]) (G := fun u => BoxAt u gX [.int .i64 4, .int .i64 (numV ws (i + 1)), .int .i64 0, .int .i64 0, .int .i64 0, .int .i64 0, .int .i64 0]) (Φ' := fun u => PB w.heap.size gW gA gE A n n ws y m yc acc (i + 1) (numE ws (i + 1)) u ∧ BoxAt u gX [.int .i64 4, .int .i64 (numV ws (i + 1)), .int .i64 0, .int .i64 0, .int .i64 0, .int .i64 0, .int .i64 0] ∧ litG 52 #[.pointer (some ⟨gX, 1, none⟩), .pointer (some ⟨gX, 3, none⟩), .pointer (some ⟨gX, 5, none⟩)] ga u ∧ litG 54 #[.pointer (some ⟨gX, 1, none⟩), .pointer (some ⟨gX, 2, none⟩)] gb0 u) (stS 3 ⟨gX, 1, none⟩ (.int .i64 (numV ws (i + 1)))) (fun w1 hw h => h.2.1.store1 (by kernel_rfl) rfl (by simp) rfl) (fun u h b hb => by obtain rfl : b = gX := by { simpa using hb }; exact ⟨lx, h.2.1.own⟩) (fun wa u e1 e2 h hG => ⟨PB.mutX h.1 hX e2, hG, lit_left h.2.2.1 e2 (by simp [gaX]), lit_left h.2.2.2 e2 (by simp [hgb0.2.2])⟩) (by kernel_rfl) (by kernel_rfl) ?_
      refine Good.run (by kernel_rfl) (stop := 1000) 1000 _ ?_
      refine Good.ask (ldS 24 ⟨gE, 0, none⟩) (.int .i64 (numE ws (i + 1))) (by kernel_rfl) (fun w1 hw h => run_ldS (by kernel_rfl) (PB.be h.1).one) ?_
      refine Good.run (by kernel_rfl) (stop := 1000) 1000 _ ?_
      refine Good.condr ((numE ws (i + 1) != 0)) true (by kernel_rfl) (by simpa using e0a) ?_
      refine Good.run (by kernel_rfl) (stop := 1000) 1000 _ ?_
      refine Good.askAt 0 (ldS 3 ⟨gA, 0, none⟩) (.int .i64 ((i + 1 : Nat) : Int)) (by kernel_rfl) (fun w1 hw h => run_ldS (by kernel_rfl) (PB.ba h.1).one) ?_
      refine Good.run (by kernel_rfl) (stop := 1000) 1000 _ ?_
      refine Good.askAt 1 (ldS 24 ⟨gE, 0, none⟩) (.int .i64 (numE ws (i + 1))) (by kernel_rfl) (fun w1 hw h => run_ldS (by kernel_rfl) (PB.be h.1).one) ?_
      refine Good.run (by kernel_rfl) (stop := 1000) 1000 _ ?_
      refine Good.leave (by kernel_rfl) ?_
      refine Good.run (by kernel_rfl) (stop := 1000) 1000 _ ?_
      refine Good.ret (v := .tuple #[.slice none 0 0, .int .i64 ((i + 1 : Nat) : Int), .int .i64 (numE ws (i + 1))]) (by kernel_rfl) (fun w1 hw h => ⟨(none, 0), rfl, hw, fun _ _ _ => ⟨rfl, fun k s hk => by simp at hk⟩⟩)
    have hlt00 : i + 1 < n := by
      rcases Nat.lt_or_ge (i + 1) n with h1 | h1
      · exact h1
      · rw [numE, List.getElem?_eq_none (by omega)] at e0a; exact absurd e0a (by decide)
    refine Good.mut (L := [gA, gE]) (Φ' := fun _ u => PB w.heap.size gW gA gE A n n ws y m yc acc (i + 1 + 1) (0) u ∧ BoxAt u gX [.int .i64 4, .int .i64 0, .int .i64 0, .int .i64 0, .int .i64 0, .int .i64 0, .int .i64 0] ∧ litG 52 #[.pointer (some ⟨gX, 1, none⟩), .pointer (some ⟨gX, 3, none⟩), .pointer (some ⟨gX, 5, none⟩)] ga u ∧ litG 54 #[.pointer (some ⟨gX, 1, none⟩), .pointer (some ⟨gX, 2, none⟩)] gb0 u) (fun w1 hw h => next_v (i' := i + 1 + 1) (e' := 0) hw h.1.1.1.1 D (show i + 1 ≤ n from by omega) (by omega) hmem (if_pos e0a) e0a rfl) (fun u h => PB.own h.1.1.1.1 D) (fun _ wa u e1 e2 h hG => ⟨PB.mutAE h.1.1.1.1 D e2 hG, BoxAt.left h.1.1.1.2 e2 (by simp [xa, xe]), lit_left h.1.1.2.1 e2 (by simp [gaA, gaE]), lit_left h.2.1 e2 (by simp [hgb0.1, hgb0.2.1])⟩) (by kernel_rfl) (by kernel_rfl) (fun _ => ?_)
    refine Good.run (by kernel_rfl) (stop := 1000) 1000 _ ?_
    refine Good.mutSt (L := [gX]) (G := fun u => BoxAt u gX [.int .i64 4, .int .i64 (numV ws (i + 1)), .int .i64 0, .int .i64 0, .int .i64 0, .int .i64 0, .int .i64 0]) (Φ' := fun u => PB w.heap.size gW gA gE A n n ws y m yc acc (i + 1 + 1) (0) u ∧ BoxAt u gX [.int .i64 4, .int .i64 (numV ws (i + 1)), .int .i64 0, .int .i64 0, .int .i64 0, .int .i64 0, .int .i64 0] ∧ litG 52 #[.pointer (some ⟨gX, 1, none⟩), .pointer (some ⟨gX, 3, none⟩), .pointer (some ⟨gX, 5, none⟩)] ga u ∧ litG 54 #[.pointer (some ⟨gX, 1, none⟩), .pointer (some ⟨gX, 2, none⟩)] gb0 u) (stS 3 ⟨gX, 1, none⟩ (.int .i64 (numV ws (i + 1)))) (fun w1 hw h => h.2.1.store1 (by kernel_rfl) rfl (by simp) rfl) (fun u h b hb => by obtain rfl : b = gX := by { simpa using hb }; exact ⟨lx, h.2.1.own⟩) (fun wa u e1 e2 h hG => ⟨PB.mutX h.1 hX e2, hG, lit_left h.2.2.1 e2 (by simp [gaX]), lit_left h.2.2.2 e2 (by simp [hgb0.2.2])⟩) (by kernel_rfl) (by kernel_rfl) ?_
    refine Good.run (by kernel_rfl) (stop := 1000) 1000 _ ?_
    refine Good.ask (ldS 24 ⟨gE, 0, none⟩) (.int .i64 (0)) (by kernel_rfl) (fun w1 hw h => run_ldS (by kernel_rfl) (PB.be h.1).one) ?_
    refine Good.run (by kernel_rfl) (stop := 1000) 1000 _ ?_
    refine Good.cond false (by kernel_rfl) ?_
    refine Good.run (by kernel_rfl) (stop := 1000) 1000 _ ?_
    refine Good.cond true (by kernel_rfl) ?_
    refine Good.run (by kernel_rfl) (stop := 1000) 1000 _ ?_
    refine Good.ask (idxS 55 (.slice (some ⟨gb0, 0, none⟩) 2 2) (1 : Nat)) (.pointer (some ⟨gb0, 1 * 1, none⟩)) (by kernel_rfl) (fun w1 hw h => run_idxN (elem := 54) (by kernel_rfl) (by kernel_rfl) (by decide)) ?_
    refine Good.run (by kernel_rfl) (stop := 1000) 1000 _ ?_
    refine Good.ask (ldS 54 ⟨gb0, 1 * 1, none⟩) (.pointer (some ⟨gX, 2, none⟩)) (by kernel_rfl) (fun w1 hw h => run_ldS (by kernel_rfl) (lit_cell h.2.2.2 rfl)) ?_
    refine Good.run (by kernel_rfl) (stop := 1000) 1000 _ ?_
    by_cases e0b : numE ws (i + 1 + 1) = 0
    case neg =>
      have hf : failAt ws (2 * (namedI 4).toNat) (i + 1) = some (i + 1 + 1) := by
        show failAt ws 6 (i + 1) = _
        rw [failAt, if_pos e0a, failAt, if_neg e0b]
      rw [pw_fail hx hv (by decide) hf] at hR
      obtain ⟨rfl, rfl, rfl⟩ : [] = out ∧ i + 1 + 1 = at_ ∧ numE ws (i + 1 + 1) = e := by cases hR; exact ⟨rfl, rfl, rfl⟩
      refine Good.mut (L := [gA, gE]) (Φ' := fun _ u => PB w.heap.size gW gA gE A n n ws y m yc acc (i + 1 + 1) (numE ws (i + 1 + 1)) u ∧ BoxAt u gX [.int .i64 4, .int .i64 (numV ws (i + 1)), .int .i64 0, .int .i64 0, .int .i64 0, .int .i64 0, .int .i64 0] ∧ litG 52 #[.pointer (some ⟨gX, 1, none⟩), .pointer (some ⟨gX, 3, none⟩), .pointer (some ⟨gX, 5, none⟩)] ga u ∧ litG 54 #[.pointer (some ⟨gX, 1, none⟩), .pointer (some ⟨gX, 2, none⟩)] gb0 u) (fun w1 hw h => next_v (i' := i + 1 + 1) (e' := numE ws (i + 1 + 1)) hw h.1 D (show i + 1 + 1 ≤ n from by omega) (by omega) hmem (if_neg e0b) rfl rfl) (fun u h => PB.own h.1 D) (fun _ wa u e1 e2 h hG => ⟨PB.mutAE h.1 D e2 hG, BoxAt.left h.2.1 e2 (by simp [xa, xe]), lit_left h.2.2.1 e2 (by simp [gaA, gaE]), lit_left h.2.2.2 e2 (by simp [hgb0.1, hgb0.2.1])⟩) (by kernel_rfl) (by kernel_rfl) (fun _ => ?_)
      refine Good.run (by kernel_rfl) (stop := 1000) 1000 _ ?_
      refine Good.mutSt (L := [gX]) (G := fun u => BoxAt u gX [.int .i64 4, .int .i64 (numV ws (i + 1)), .int .i64 (numV ws (i + 1 + 1)), .int .i64 0, .int .i64 0, .int .i64 0, .int .i64 0]) (Φ' := fun u => PB w.heap.size gW gA gE A n n ws y m yc acc (i + 1 + 1) (numE ws (i + 1 + 1)) u ∧ BoxAt u gX [.int .i64 4, .int .i64 (numV ws (i + 1)), .int .i64 (numV ws (i + 1 + 1)), .int .i64 0, .int .i64 0, .int .i64 0, .int .i64 0] ∧ litG 52 #[.pointer (some ⟨gX, 1, none⟩), .pointer (some ⟨gX, 3, none⟩), .pointer (some ⟨gX, 5, none⟩)] ga u ∧ litG 54 #[.pointer (some ⟨gX, 1, none⟩), .pointer (some ⟨gX, 2, none⟩)] gb0 u) (stS 3 ⟨gX, 2, none⟩ (.int .i64 (numV ws (i + 1 + 1)))) (fun w1 hw h => h.2.1.store1 (by kernel_rfl) rfl (by simp) rfl) (fun u h b hb => by obtain rfl : b = gX := by { simpa using hb }; exact ⟨lx, h.2.1.own⟩) (fun wa u e1 e2 h hG => ⟨PB.mutX h.1 hX e2, hG, lit_left h.2.2.1 e2 (by simp [gaX]), lit_left h.2.2.2 e2 (by simp [hgb0.2.2])⟩) (by kernel_rfl) (by kernel_rfl) ?_
      refine Good.run (by kernel_rfl) (stop := 1000) 1000 _ ?_
      refine Good.ask (ldS 24 ⟨gE, 0, none⟩) (.int .i64 (numE ws (i + 1 + 1))) (by kernel_rfl) (fun w1 hw h => run_ldS (by kernel_rfl) (PB.be h.1).one) ?_
      refine Good.run (by kernel_rfl) (stop := 1000) 1000 _ ?_
      refine Good.condr ((numE ws (i + 1 + 1) != 0)) true (by kernel_rfl) (by simpa using e0b) ?_
      refine Good.run (by kernel_rfl) (stop := 1000) 1000 _ ?_
      refine Good.askAt 0 (ldS 3 ⟨gA, 0, none⟩) (.int .i64 ((i + 1 + 1 : Nat) : Int)) (by kernel_rfl) (fun w1 hw h => run_ldS (by kernel_rfl) (PB.ba h.1).one) ?_
      refine Good.run (by kernel_rfl) (stop := 1000) 1000 _ ?_
      refine Good.askAt 1 (ldS 24 ⟨gE, 0, none⟩) (.int .i64 (numE ws (i + 1 + 1))) (by kernel_rfl) (fun w1 hw h => run_ldS (by kernel_rfl) (PB.be h.1).one) ?_
      refine Good.run (by kernel_rfl) (stop := 1000) 1000 _ ?_
      refine Good.leave (by kernel_rfl) ?_
      refine Good.run (by kernel_rfl) (stop := 1000) 1000 _ ?_
      refine Good.ret (v := .tuple #[.slice none 0 0, .int .i64 ((i + 1 + 1 : Nat) : Int), .int .i64 (numE ws (i + 1 + 1))]) (by kernel_rfl) (fun w1 hw h => ⟨(none, 0), rfl, hw, fun _ _ _ => ⟨rfl, fun k s hk => by simp at hk⟩⟩)
    have hlt01 : i + 1 + 1 < n := by
      rcases Nat.lt_or_ge (i + 1 + 1) n with h1 | h1
      · exact h1
      · rw [numE, List.getElem?_eq_none (by omega)] at e0b; exact absurd e0b (by decide)
    refine Good.mut (L := [gA, gE]) (Φ' := fun _ u => PB w.heap.size gW gA gE A n n ws y m yc acc (i + 1 + 1 + 1) (0) u ∧ BoxAt u gX [.int .i64 4, .int .i64 (numV ws (i + 1)), .int .i64 0, .int .i64 0, .int .i64 0, .int .i64 0, .int .i64 0] ∧ litG 52 #[.pointer (some ⟨gX, 1, none⟩), .pointer (some ⟨gX, 3, none⟩), .pointer (some ⟨gX, 5, none⟩)] ga u ∧ litG 54 #[.pointer (some ⟨gX, 1, none⟩), .pointer (some ⟨gX, 2, none⟩)] gb0 u) (fun w1 hw h => next_v (i' := i + 1 + 1 + 1) (e' := 0) hw h.1 D (show i + 1 + 1 ≤ n from by omega) (by omega) hmem (if_pos e0b) e0b rfl) (fun u h => PB.own h.1 D) (fun _ wa u e1 e2 h hG => ⟨PB.mutAE h.1 D e2 hG, BoxAt.left h.2.1 e2 (by simp [xa, xe]), lit_left h.2.2.1 e2 (by simp [gaA, gaE]), lit_left h.2.2.2 e2 (by simp [hgb0.1, hgb0.2.1])⟩) (by kernel_rfl) (by kernel_rfl) (fun _ => ?_)
    refine Good.run (by kernel_rfl) (stop := 1000) 1000 _ ?_
    refine Good.mutSt (L := [gX]) (G := fun u => BoxAt u gX [.int .i64 4, .int .i64 (numV ws (i + 1)), .int .i64 (numV ws (i + 1 + 1)), .int .i64 0, .int .i64 0, .int .i64 0, .int .i64 0]) (Φ' := fun u => PB w.heap.size gW gA gE A n n ws y m yc acc (i + 1 + 1 + 1) (0) u ∧ BoxAt u gX [.int .i64 4, .int .i64 (numV ws (i + 1)), .int .i64 (numV ws (i + 1 + 1)), .int .i64 0, .int .i64 0, .int .i64 0, .int .i64 0] ∧ litG 52 #[.pointer (some ⟨gX, 1, none⟩), .pointer (some ⟨gX, 3, none⟩), .pointer (some ⟨gX, 5, none⟩)] ga u ∧ litG 54 #[.pointer (some ⟨gX, 1, none⟩), .pointer (some ⟨gX, 2, none⟩)] gb0 u) (stS 3 ⟨gX, 2, none⟩ (.int .i64 (numV ws (i + 1 + 1)))) (fun w1 hw h => h.2.1.store1 (by kernel_rfl) rfl (by simp) rfl) (fun u h b hb => by obtain rfl : b = gX := by { simpa using hb }; exact ⟨lx, h.2.1.own⟩) (fun wa u e1 e2 h hG => ⟨PB.mutX h.1 hX e2, hG, lit_left h.2.2.1 e2 (by simp [gaX]), lit_left h.2.2.2 e2 (by simp [hgb0.2.2])⟩) (by kernel_rfl) (by kernel_rfl) ?_
    refine Good.run (by kernel_rfl) (stop := 1000) 1000 _ ?_
    refine Good.ask (ldS 24 ⟨gE, 0, none⟩) (.int .i64 (0)) (by kernel_rfl) (fun w1 hw h => run_ldS (by kernel_rfl) (PB.be h.1).one) ?_
    refine Good.run (by kernel_rfl) (stop := 1000) 1000 _ ?_
    refine Good.cond false (by kernel_rfl) ?_
    refine Good.run (by kernel_rfl) (stop := 1000) 1000 _ ?_
    refine Good.cond false (by kernel_rfl) ?_
    refine Good.run (by kernel_rfl) (stop := 1000) 1000 _ ?_
    refine Good.cond true (by kernel_rfl) ?_
    refine Good.run (by kernel_rfl) (stop := 1000) 1000 _ ?_
    refine Good.ask (idxS 53 (.slice (some ⟨ga, 0, none⟩) 3 3) (1 : Nat)) (.pointer (some ⟨ga, 1 * 1, none⟩)) (by kernel_rfl) (fun w1 hw h => run_idxN (elem := 52) (by kernel_rfl) (by kernel_rfl) (by decide)) ?_
    refine Good.run (by kernel_rfl) (stop := 1000) 1000 _ ?_
    refine Good.ask (ldS 52 ⟨ga, 1 * 1, none⟩) (.pointer (some ⟨gX, 3, none⟩)) (by kernel_rfl) (fun w1 hw h => run_ldS (by kernel_rfl) (lit_cell h.2.2.1 rfl)) ?_
    refine Good.run (by kernel_rfl) (stop := 1000) 1000 _ ?_
    refine Good.make (litS 55 2 #[(0, .pointer (some ⟨gX, 3, none⟩)), (1, .pointer (some ⟨gX, 4, none⟩))]) (litV 2) (fun g u => litG 54 #[.pointer (some ⟨gX, 3, none⟩), .pointer (some ⟨gX, 4, none⟩)] g u ∧ g ∉ [gA, gE, gX]) (by kernel_rfl) (fun w1 hw h => make_litF (by kernel_rfl) (by intro b hb; simp only [List.mem_cons, List.not_mem_nil, or_false] at hb; rcases hb with rfl | rfl | rfl; exact (PB.ba h.1).lt; exact (PB.be h.1).lt; exact BoxAt.lt h.2.1)) (fun gb1 => ?_)
    refine Good.run (by kernel_rfl) (stop := 1000) 1000 _ ?_
    refine Good.pure_ (p := gb1 ∉ [gA, gE, gX]) (fun u hu h => h.2.2) (by kernel_rfl) (fun hgb1 => ?_)
    simp only [List.mem_cons, List.not_mem_nil, or_false, not_or] at hgb1
    refine Good.un (by kernel_rfl) ?_
    refine Good.run (by kernel_rfl) (stop := 1000) 1000 _ ?_
    refine Good.cond true (by kernel_rfl) ?_
    refine Good.run (by kernel_rfl) (stop := 1000) 1000 _ ?_
    refine Good.ask (idxS 55 (.slice (some ⟨gb1, 0, none⟩) 2 2) (0 : Nat)) (.pointer (some ⟨gb1, 0 * 1, none⟩)) (by kernel_rfl) (fun w1 hw h => run_idxN (elem := 54) (by kernel_rfl) (by kernel_rfl) (by decide)) ?_
    refine Good.run (by kernel_rfl) (stop := 1000) 1000 _ ?_
    refine Good.ask (ldS 54 ⟨gb1, 0 * 1, none⟩) (.pointer (some ⟨gX, 3, none⟩)) (by kernel_rfl) (fun w1 hw h => run_ldS (by kernel_rfl) (lit_cell h.2.1 rfl)) ?_
    refine Good.run (by kernel_rfl) (stop := 1000) 1000 _ ?_
    by_cases e1a : numE ws (i + 1 + 1 + 1) = 0
    case neg =>
      have hf : failAt ws (2 * (namedI 4).toNat) (i + 1) = some (i + 1 + 1 + 1) := by
        show failAt ws 6 (i + 1) = _
        rw [failAt, if_pos e0a, failAt, if_pos e0b, failAt, if_neg e1a]
      rw [pw_fail hx hv (by decide) hf] at hR
      obtain ⟨rfl, rfl, rfl⟩ : [] = out ∧ i + 1 + 1 + 1 = at_ ∧ numE ws (i + 1 + 1 + 1) = e := by cases hR; exact ⟨rfl, rfl, rfl⟩
      refine Good.mut (L := [gA, gE]) (Φ' := fun _ u => PB w.heap.size gW gA gE A n n ws y m yc acc (i + 1 + 1 + 1) (numE ws (i + 1 + 1 + 1)) u ∧ BoxAt u gX [.int .i64 4, .int .i64 (numV ws (i + 1)), .int .i64 (numV ws (i + 1 + 1)), .int .i64 0, .int .i64 0, .int .i64 0, .int .i64 0] ∧ litG 52 #[.pointer (some ⟨gX, 1, none⟩), .pointer (some ⟨gX, 3, none⟩), .pointer (some ⟨gX, 5, none⟩)] ga u ∧ litG 54 #[.pointer (some ⟨gX, 3, none⟩), .pointer (some ⟨gX, 4, none⟩)] gb1 u) (fun w1 hw h => next_v (i' := i + 1 + 1 + 1) (e' := numE ws (i + 1 + 1 + 1)) hw h.1.1 D (show i + 1 + 1 + 1 ≤ n from by omega) (by omega) hmem (if_neg e1a) rfl rfl) (fun u h => PB.own h.1.1 D) (fun _ wa u e1 e2 h hG => ⟨PB.mutAE h.1.1 D e2 hG, BoxAt.left h.1.2.1 e2 (by simp [xa, xe]), lit_left h.1.2.2.1 e2 (by simp [gaA, gaE]), lit_left h.2.1 e2 (by simp [hgb1.1, hgb1.2.1])⟩) (by kernel_rfl) (by kernel_rfl) (fun _ => ?_)
      refine Good.run (by kernel_rfl) (stop := 1000) 1000 _ ?_
      refine Good.mutSt (L := [gX]) (G := fun u => BoxAt u gX [.int .i64 4, .int .i64 (numV ws (i + 1)), .int .i64 (numV ws (i + 1 + 1)), .int .i64 (numV ws (i + 1 + 1 + 1)), .int .i64 0, .int .i64 0, .int .i64 0]) (Φ' := fun u => PB w.heap.size gW gA gE A n n ws y m yc acc (i + 1 + 1 + 1) (numE ws (i + 1 + 1 + 1)) u ∧ BoxAt u gX [.int .i64 4, .int .i64 (numV ws (i + 1)), .int .i64 (numV ws (i + 1 + 1)), .int .i64 (numV ws (i + 1 + 1 + 1)), .int .i64 0, .int .i64 0, .int .i64 0] ∧ litG 52 #[.pointer (some ⟨gX, 1, none⟩), .pointer (some ⟨gX, 3, none⟩), .pointer (some ⟨gX, 5, none⟩)] ga u ∧ litG 54 #[.pointer (some ⟨gX, 3, none⟩), .pointer (some ⟨gX, 4, none⟩)] gb1 u) (stS 3 ⟨gX, 3, none⟩ (.int .i64 (numV ws (i + 1 + 1 + 1)))) (fun w1 hw h => h.2.1.store1 (by kernel_rfl) rfl (by simp) rfl) (fun u h b hb => by obtain rfl : b = gX := by { simpa using hb }; exact ⟨lx, h.2.1.own⟩) (fun wa u e1 e2 h hG => ⟨PB.mutX h.1 hX e2, hG, lit_left h.2.2.1 e2 (by simp [gaX]), lit_left h.2.2.2 e2 (by simp [hgb1.2.2])⟩) (by kernel_rfl) (by kernel_rfl) ?_
      refine Good.run (by kernel_rfl) (stop := 1000) 1000 _ ?_
      refine Good.ask (ldS 24 ⟨gE, 0, none⟩) (.int .i64 (numE ws (i + 1 + 1 + 1))) (by kernel_rfl) (fun w1 hw h => run_ldS (by kernel_rfl) (PB.be h.1).one) ?_
      refine Good.run (by kernel_rfl) (stop := 1000) 1000 _ ?_
      refine Good.condr ((numE ws (i + 1 + 1 + 1) != 0)) true (by kernel_rfl) (by simpa using e1a) ?_
      refine Good.run (by kernel_rfl) (stop := 1000) 1000 _ ?_
      refine Good.askAt 0 (ldS 3 ⟨gA, 0, none⟩) (.int .i64 ((i + 1 + 1 + 1 : Nat) : Int)) (by kernel_rfl) (fun w1 hw h => run_ldS (by kernel_rfl) (PB.ba h.1).one) ?_
      refine Good.run (by kernel_rfl) (stop := 1000) 1000 _ ?_
      refine Good.askAt 1 (ldS 24 ⟨gE, 0, none⟩) (.int .i64 (numE ws (i + 1 + 1 + 1))) (by kernel_rfl) (fun w1 hw h => run_ldS (by kernel_rfl) (PB.be h.1).one) ?_
      refine Good.run (by kernel_rfl) (stop := 1000) 1000 _ ?_
      refine Good.leave (by kernel_rfl) ?_
      refine Good.run (by kernel_rfl) (stop := 1000) 1000 _ ?_
      refine Good.ret (v := .tuple #[.slice none 0 0, .int .i64 ((i + 1 + 1 + 1 : Nat) : Int), .int .i64 (numE ws (i + 1 + 1 + 1))]) (by kernel_rfl) (fun w1 hw h => ⟨(none, 0), rfl, hw, fun _ _ _ => ⟨rfl, fun k s hk => by simp at hk⟩⟩)
    have hlt10 : i + 1 + 1 + 1 < n := by
      rcases Nat.lt_or_ge (i + 1 + 1 + 1) n with h1 | h1
      · exact h1
      · rw [numE, List.getElem?_eq_none (by omega)] at e1a; exact absurd e1a (by decide)
    refine Good.mut (L := [gA, gE]) (Φ' := fun _ u => PB w.heap.size gW gA gE A n n ws y m yc acc (i + 1 + 1 + 1 + 1) (0) u ∧ BoxAt u gX [.int .i64 4, .int .i64 (numV ws (i + 1)), .int .i64 (numV ws (i + 1 + 1)), .int .i64 0, .int .i64 0, .int .i64 0, .int .i64 0] ∧ litG 52 #[.pointer (some ⟨gX, 1, none⟩), .pointer (some ⟨gX, 3, none⟩), .pointer (some ⟨gX, 5, none⟩)] ga u ∧ litG 54 #[.pointer (some ⟨gX, 3, none⟩), .pointer (some ⟨gX, 4, none⟩)] gb1 u) (fun w1 hw h => next_v (i' := i + 1 + 1 + 1 + 1) (e' := 0) hw h.1.1 D (show i + 1 + 1 + 1 ≤ n from by omega) (by omega) hmem (if_pos e1a) e1a rfl) (fun u h => PB.own h.1.1 D) (fun _ wa u e1 e2 h hG => ⟨PB.mutAE h.1.1 D e2 hG, BoxAt.left h.1.2.1 e2 (by simp [xa, xe]), lit_left h.1.2.2.1 e2 (by simp [gaA, gaE]), lit_left h.2.1 e2 (by simp [hgb1.1, hgb1.2.1])⟩) (by kernel_rfl) (by kernel_rfl) (fun _ => ?_)
    refine Good.run (by kernel_rfl) (stop := 1000) 1000 _ ?_
    refine Good.mutSt (L := [gX]) (G := fun u => BoxAt u gX [.int .i64 4, .int .i64 (numV ws (i + 1)), .int .i64 (numV ws (i + 1 + 1)), .int .i64 (numV ws (i + 1 + 1 + 1)), .int .i64 0, .int .i64 0, .int .i64 0]) (Φ' := fun u => PB w.heap.size gW gA gE A n n ws y m yc acc (i + 1 + 1 + 1 + 1) (0) u ∧ BoxAt u gX [.int .i64 4, .int .i64 (numV ws (i + 1)), .int .i64 (numV ws (i + 1 + 1)), .int .i64 (numV ws (i + 1 + 1 + 1)), .int .i64 0, .int .i64 0, .int .i64 0] ∧ litG 52 #[.pointer (some ⟨gX, 1, none⟩), .pointer (some ⟨gX, 3, none⟩), .pointer (some ⟨gX, 5, none⟩)] ga u ∧ litG 54 #[.pointer (some ⟨gX, 3, none⟩), .pointer (some ⟨gX, 4, none⟩)] gb1 u) (stS 3 ⟨gX, 3, none⟩ (.int .i64 (numV ws (i + 1 + 1 + 1)))) (fun w1 hw h => h.2.1.store1 (by kernel_rfl) rfl (by simp) rfl) (fun u h b hb => by obtain rfl : b = gX := by { simpa using hb }; exact ⟨lx, h.2.1.own⟩) (fun wa u e1 e2 h hG => ⟨PB.mutX h.1 hX e2, hG, lit_left h.2.2.1 e2 (by simp [gaX]), lit_left h.2.2.2 e2 (by simp [hgb1.2.2])⟩) (by kernel_rfl) (by kernel_rfl) ?_
    refine Good.run (by kernel_rfl) (stop := 1000) 1000 _ ?_
    refine Good.ask (ldS 24 ⟨gE, 0, none⟩) (.int .i64 (0)) (by kernel_rfl) (fun w1 hw h => run_ldS (by kernel_rfl) (PB.be h.1).one) ?_
    refine Good.run (by kernel_rfl) (stop := 1000) 1000 _ ?_
    refine Good.cond false (by kernel_rfl) ?_
    refine Good.run (by kernel_rfl) (stop := 1000) 1000 _ ?_
    refine Good.cond true (by kernel_rfl) ?_
    refine Good.run (by kernel_rfl) (stop := 1000) 1000 _ ?_
    refine Good.ask (idxS 55 (.slice (some ⟨gb1, 0, none⟩) 2 2) (1 : Nat)) (.pointer (some ⟨gb1, 1 * 1, none⟩)) (by kernel_rfl) (fun w1 hw h => run_idxN (elem := 54) (by kernel_rfl) (by kernel_rfl) (by decide)) ?_
    refine Good.run (by kernel_rfl) (stop := 1000) 1000 _ ?_
    refine Good.ask (ldS 54 ⟨gb1, 1 * 1, none⟩) (.pointer (some ⟨gX, 4, none⟩)) (by kernel_rfl) (fun w1 hw h => run_ldS (by kernel_rfl) (lit_cell h.2.2.2 rfl)) ?_
    refine Good.run (by kernel_rfl) (stop := 1000) 1000 _ ?_
    by_cases e1b : numE ws (i + 1 + 1 + 1 + 1) = 0
    case neg =>
      have hf : failAt ws (2 * (namedI 4).toNat) (i + 1) = some (i + 1 + 1 + 1 + 1) := by
        show failAt ws 6 (i + 1) = _
        rw [failAt, if_pos e0a, failAt, if_pos e0b, failAt, if_pos e1a, failAt, if_neg e1b]
      rw [pw_fail hx hv (by decide) hf] at hR
      obtain ⟨rfl, rfl, rfl⟩ : [] = out ∧ i + 1 + 1 + 1 + 1 = at_ ∧ numE ws (i + 1 + 1 + 1 + 1) = e := by cases hR; exact ⟨rfl, rfl, rfl⟩
      refine Good.mut (L := [gA, gE]) (Φ' := fun _ u => PB w.heap.size gW gA gE A n n ws y m yc acc (i + 1 + 1 + 1 + 1) (numE ws (i + 1 + 1 + 1 + 1)) u ∧ BoxAt u gX [.int .i64 4, .int .i64 (numV ws (i + 1)), .int .i64 (numV ws (i + 1 + 1)), .int .i64 (numV ws (i + 1 + 1 + 1)), .int .i64 0, .int .i64 0, .int .i64 0] ∧ litG 52 #[.pointer (some ⟨gX, 1, none⟩), .pointer (some ⟨gX, 3, none⟩), .pointer (some ⟨gX, 5, none⟩)] ga u ∧ litG 54 #[.pointer (some ⟨gX, 3, none⟩), .pointer (some ⟨gX, 4, none⟩)] gb1 u) (fun w1 hw h => next_v (i' := i + 1 + 1 + 1 + 1) (e' := numE ws (i + 1 + 1 + 1 + 1)) hw h.1 D (show i + 1 + 1 + 1 + 1 ≤ n from by omega) (by omega) hmem (if_neg e1b) rfl rfl) (fun u h => PB.own h.1 D) (fun _ wa u e1 e2 h hG => ⟨PB.mutAE h.1 D e2 hG, BoxAt.left h.2.1 e2 (by simp [xa, xe]), lit_left h.2.2.1 e2 (by simp [gaA, gaE]), lit_left h.2.2.2 e2 (by simp [hgb1.1, hgb1.2.1])⟩) (by kernel_rfl) (by kernel_rfl) (fun _ => ?_)
      refine Good.run (by kernel_rfl) (stop := 1000) 1000 _ ?_
      refine Good.mutSt (L := [gX]) (G := fun u => BoxAt u gX [.int .i64 4, .int .i64 (numV ws (i + 1)), .int .i64 (numV ws (i + 1 + 1)), .int .i64 (numV ws (i + 1 + 1 + 1)), .int .i64 (numV ws (i + 1 + 1 + 1 + 1)), .int .i64 0, .int .i64 0]) (Φ' := fun u => PB w.heap.size gW gA gE A n n ws y m yc acc (i + 1 + 1 + 1 + 1) (numE ws (i + 1 + 1 + 1 + 1)) u ∧ BoxAt u gX [.int .i64 4, .int .i64 (numV ws (i + 1)), .int .i64 (numV ws (i + 1 + 1)), .int .i64 (numV ws (i + 1 + 1 + 1)), .int .i64 (numV ws (i + 1 + 1 + 1 + 1)), .int .i64 0, .int .i64 0] ∧ litG 52 #[.pointer (some ⟨gX, 1, none⟩), .pointer (some ⟨gX, 3, none⟩), .pointer (some ⟨gX, 5, none⟩)] ga u ∧ litG 54 #[.pointer (some ⟨gX, 3, none⟩), .pointer (some ⟨gX, 4, none⟩)] gb1 u) (stS 3 ⟨gX, 4, none⟩ (.int .i64 (numV ws (i + 1 + 1 + 1 + 1)))) (fun w1 hw h => h.2.1.store1 (by kernel_rfl) rfl (by simp) rfl) (fun u h b hb => by obtain rfl : b = gX := by { simpa using hb }; exact ⟨lx, h.2.1.own⟩) (fun wa u e1 e2 h hG => ⟨PB.mutX h.1 hX e2, hG, lit_left h.2.2.1 e2 (by simp [gaX]), lit_left h.2.2.2 e2 (by simp [hgb1.2.2])⟩) (by kernel_rfl) (by kernel_rfl) ?_
      refine Good.run (by kernel_rfl) (stop := 1000) 1000 _ ?_
      refine Good.ask (ldS 24 ⟨gE, 0, none⟩) (.int .i64 (numE ws (i + 1 + 1 + 1 + 1))) (by kernel_rfl) (fun w1 hw h => run_ldS (by kernel_rfl) (PB.be h.1).one) ?_
      refine Good.run (by kernel_rfl) (stop := 1000) 1000 _ ?_
      refine Good.condr ((numE ws (i + 1 + 1 + 1 + 1) != 0)) true (by kernel_rfl) (by simpa using e1b) ?_
      refine Good.run (by kernel_rfl) (stop := 1000) 1000 _ ?_
      refine Good.askAt 0 (ldS 3 ⟨gA, 0, none⟩) (.int .i64 ((i + 1 + 1 + 1 + 1 : Nat) : Int)) (by kernel_rfl) (fun w1 hw h => run_ldS (by kernel_rfl) (PB.ba h.1).one) ?_
      refine Good.run (by kernel_rfl) (stop := 1000) 1000 _ ?_
      refine Good.askAt 1 (ldS 24 ⟨gE, 0, none⟩) (.int .i64 (numE ws (i + 1 + 1 + 1 + 1))) (by kernel_rfl) (fun w1 hw h => run_ldS (by kernel_rfl) (PB.be h.1).one) ?_
      refine Good.run (by kernel_rfl) (stop := 1000) 1000 _ ?_
      refine Good.leave (by kernel_rfl) ?_
      refine Good.run (by kernel_rfl) (stop := 1000) 1000 _ ?_
      refine Good.ret (v := .tuple #[.slice none 0 0, .int .i64 ((i + 1 + 1 + 1 + 1 : Nat) : Int), .int .i64 (numE ws (i + 1 + 1 + 1 + 1))]) (by kernel_rfl) (fun w1 hw h => ⟨(none, 0), rfl, hw, fun _ _ _ => ⟨rfl, fun k s hk => by simp at hk⟩⟩)
    have hlt11 : i + 1 + 1 + 1 + 1 < n := by
      rcases Nat.lt_or_ge (i + 1 + 1 + 1 + 1) n with h1 | h1
      · exact h1
      · rw [numE, List.getElem?_eq_none (by omega)] at e1b; exact absurd e1b (by decide)
    refine Good.mut (L := [gA, gE]) (Φ' := fun _ u => PB w.heap.size gW gA gE A n n ws y m yc acc (i + 1 + 1 + 1 + 1 + 1) (0) u ∧ BoxAt u gX [.int .i64 4, .int .i64 (numV ws (i + 1)), .int .i64 (numV ws (i + 1 + 1)), .int .i64 (numV ws (i + 1 + 1 + 1)), .int .i64 0, .int .i64 0, .int .i64 0] ∧ litG 52 #[.pointer (some ⟨gX, 1, none⟩), .pointer (some ⟨gX, 3, none⟩), .pointer (some ⟨gX, 5, none⟩)] ga u ∧ litG 54 #[.pointer (some ⟨gX, 3, none⟩), .pointer (some ⟨gX, 4, none⟩)] gb1 u) (fun w1 hw h => next_v (i' := i + 1 + 1 + 1 + 1 + 1) (e' := 0) hw h.1 D (show i + 1 + 1 + 1 + 1 ≤ n from by omega) (by omega) hmem (if_pos e1b) e1b rfl) (fun u h => PB.own h.1 D) (fun _ wa u e1 e2 h hG => ⟨PB.mutAE h.1 D e2 hG, BoxAt.left h.2.1 e2 (by simp [xa, xe]), lit_left h.2.2.1 e2 (by simp [gaA, gaE]), lit_left h.2.2.2 e2 (by simp [hgb1.1, hgb1.2.1])⟩) (by kernel_rfl) (by kernel_rfl) (fun _ => ?_)
    refine Good.run (by kernel_rfl) (stop := 1000) 1000 _ ?_
    refine Good.mutSt (L := [gX]) (G := fun u => BoxAt u gX [.int .i64 4, .int .i64 (numV ws (i + 1)), .int .i64 (numV ws (i + 1 + 1)), .int .i64 (numV ws (i + 1 + 1 + 1)), .int .i64 (numV ws (i + 1 + 1 + 1 + 1)), .int .i64 0, .int .i64 0]) (Φ' := fun u => PB w.heap.size gW gA gE A n n ws y m yc acc (i + 1 + 1 + 1 + 1 + 1) (0) u ∧ BoxAt u gX [.int .i64 4, .int .i64 (numV ws (i + 1)), .int .i64 (numV ws (i + 1 + 1)), .int .i64 (numV ws (i + 1 + 1 + 1)), .int .i64 (numV ws (i + 1 + 1 + 1 + 1)), .int .i64 0, .int .i64 0] ∧ litG 52 #[.pointer (some ⟨gX, 1, none⟩), .pointer (some ⟨gX, 3, none⟩), .pointer (some ⟨gX, 5, none⟩)] ga u ∧ litG 54 #[.pointer (some ⟨gX, 3, none⟩), .pointer (some ⟨gX, 4, none⟩)] gb1 u) (stS 3 ⟨gX, 4, none⟩ (.int .i64 (numV ws (i + 1 + 1 + 1 + 1)))) (fun w1 hw h => h.2.1.store1 (by kernel_rfl) rfl (by simp) rfl) (fun u h b hb => by obtain rfl : b = gX := by { simpa using hb }; exact ⟨lx, h.2.1.own⟩) (fun wa u e1 e2 h hG => ⟨PB.mutX h.1 hX e2, hG, lit_left h.2.2.1 e2 (by simp [gaX]), lit_left h.2.2.2 e2 (by simp [hgb1.2.2])⟩) (by kernel_rfl) (by kernel_rfl) ?_
    refine Good.run (by kernel_rfl) (stop := 1000) 1000 _ ?_
    refine Good.ask (ldS 24 ⟨gE, 0, none⟩) (.int .i64 (0)) (by kernel_rfl) (fun w1 hw h => run_ldS (by kernel_rfl) (PB.be h.1).one) ?_
    refine Good.run (by kernel_rfl) (stop := 1000) 1000 _ ?_
    refine Good.cond false (by kernel_rfl) ?_
    refine Good.run (by kernel_rfl) (stop := 1000) 1000 _ ?_
    refine Good.cond false (by kernel_rfl) ?_
    refine Good.run (by kernel_rfl) (stop := 1000) 1000 _ ?_
    refine Good.cond true (by kernel_rfl) ?_
    refine Good.run (by kernel_rfl) (stop := 1000) 1000 _ ?_
    refine Good.ask (idxS 53 (.slice (some ⟨ga, 0, none⟩) 3 3) (2 : Nat)) (.pointer (some ⟨ga, 2 * 1, none⟩)) (by kernel_rfl) (fun w1 hw h => run_idxN (elem := 52) (by kernel_rfl) (by kernel_rfl) (by decide)) ?_
    refine Good.run (by kernel_rfl) (stop := 1000) 1000 _ ?_
    refine Good.ask (ldS 52 ⟨ga, 2 * 1, none⟩) (.pointer (some ⟨gX, 5, none⟩)) (by kernel_rfl) (fun w1 hw h => run_ldS (by kernel_rfl) (lit_cell h.2.2.1 rfl)) ?_
    refine Good.run (by kernel_rfl) (stop := 1000) 1000 _ ?_
    refine Good.make (litS 55 2 #[(0, .pointer (some ⟨gX, 5, none⟩)), (1, .pointer (some ⟨gX, 6, none⟩))]) (litV 2) (fun g u => litG 54 #[.pointer (some ⟨gX, 5, none⟩), .pointer (some ⟨gX, 6, none⟩)] g u ∧ g ∉ [gA, gE, gX]) (by kernel_rfl) (fun w1 hw h => make_litF (by kernel_rfl) (by intro b hb; simp only [List.mem_cons, List.not_mem_nil, or_false] at hb; rcases hb with rfl | rfl | rfl; exact (PB.ba h.1).lt; exact (PB.be h.1).lt; exact BoxAt.lt h.2.1)) (fun gb2 => ?_)
    refine Good.run (by kernel_rfl) (stop := 1000) 1000 _ ?_
    refine Good.pure_ (p := gb2 ∉ [gA, gE, gX]) (fun u hu h => h.2.2) (by kernel_rfl) (fun hgb2 => ?_)
    simp only [List.mem_cons, List.not_mem_nil, or_false, not_or] at hgb2
    refine Good.un (by kernel_rfl) ?_
    refine Good.run (by kernel_rfl) (stop := 1000) 1000 _ ?_
    refine Good.cond true (by kernel_rfl) ?_
    refine Good.run (by kernel_rfl) (stop := 1000) 1000 _ ?_
    refine Good.ask (idxS 55 (.slice (some ⟨gb2, 0, none⟩) 2 2) (0 : Nat)) (.pointer (some ⟨gb2, 0 * 1, none⟩)) (by kernel_rfl) (fun w1 hw h => run_idxN (elem := 54) (by kernel_rfl) (by kernel_rfl) (by decide)) ?_
    refine Good.run (by kernel_rfl) (stop := 1000) 1000 _ ?_
    refine Good.ask (ldS 54 ⟨gb2, 0 * 1, none⟩) (.pointer (some ⟨gX, 5, none⟩)) (by kernel_rfl) (fun w1 hw h => run_ldS (by kernel_rfl) (lit_cell h.2.1 rfl)) ?_
    refine Good.run (by kernel_rfl) (stop := 1000) 1000 _ ?_
    by_cases e2a : numE ws (i + 1 + 1 + 1 + 1 + 1) = 0
    case neg =>
      have hf : failAt ws (2 * (namedI 4).toNat) (i + 1) = some (i + 1 + 1 + 1 + 1 + 1) := by
        show failAt ws 6 (i + 1) = _
        rw [failAt, if_pos e0a, failAt, if_pos e0b, failAt, if_pos e1a, failAt, if_pos e1b, failAt, if_neg e2a]
      rw [pw_fail hx hv (by decide) hf] at hR
      obtain ⟨rfl, rfl, rfl⟩ : [] = out ∧ i + 1 + 1 + 1 + 1 + 1 = at_ ∧ numE ws (i + 1 + 1 + 1 + 1 + 1) = e := by cases hR; exact ⟨rfl, rfl, rfl⟩
      refine Good.mut (L := [gA, gE]) (Φ' := fun _ u => PB w.heap.size gW gA gE A n n ws y m yc acc (i + 1 + 1 + 1 + 1 + 1) (numE ws (i + 1 + 1 + 1 + 1 + 1)) u ∧ BoxAt u gX [.int .i64 4, .int .i64 (numV ws (i + 1)), .int .i64 (numV ws (i + 1 + 1)), .int .i64 (numV ws (i + 1 + 1 + 1)), .int .i64 (numV ws (i + 1 + 1 + 1 + 1)), .int .i64 0, .int .i64 0] ∧ litG 52 #[.pointer (some ⟨gX, 1, none⟩), .pointer (some ⟨gX, 3, none⟩), .pointer (some ⟨gX, 5, none⟩)] ga u ∧ litG 54 #[.pointer (some ⟨gX, 5, none⟩), .pointer (some ⟨gX, 6, none⟩)] gb2 u) (fun w1 hw h => next_v (i' := i + 1 + 1 + 1 + 1 + 1) (e' := numE ws (i + 1 + 1 + 1 + 1 + 1)) hw h.1.1 D (show i + 1 + 1 + 1 + 1 + 1 ≤ n from by omega) (by omega) hmem (if_neg e2a) rfl rfl) (fun u h => PB.own h.1.1 D) (fun _ wa u e1 e2 h hG => ⟨PB.mutAE h.1.1 D e2 hG, BoxAt.left h.1.2.1 e2 (by simp [xa, xe]), lit_left h.1.2.2.1 e2 (by simp [gaA, gaE]), lit_left h.2.1 e2 (by simp [hgb2.1, hgb2.2.1])⟩) (by kernel_rfl) (by kernel_rfl) (fun _ => ?_)
      refine Good.run (by kernel_rfl) (stop := 1000) 1000 _ ?_
      refine Good.mutSt (L := [gX]) (G := fun u => BoxAt u gX [.int .i64 4, .int .i64 (numV ws (i + 1)), .int .i64 (numV ws (i + 1 + 1)), .int .i64 (numV ws (i + 1 + 1 + 1)), .int .i64 (numV ws (i + 1 + 1 + 1 + 1)), .int .i64 (numV ws (i + 1 + 1 + 1 + 1 + 1)), .int .i64 0]) (Φ' := fun u => PB w.heap.size gW gA gE A n n ws y m yc acc (i + 1 + 1 + 1 + 1 + 1) (numE ws (i + 1 + 1 + 1 + 1 + 1)) u ∧ BoxAt u gX [.int .i64 4, .int .i64 (numV ws (i + 1)), .int .i64 (numV ws (i + 1 + 1)), .int .i64 (numV ws (i + 1 + 1 + 1)), .int .i64 (numV ws (i + 1 + 1 + 1 + 1)), .int .i64 (numV ws (i + 1 + 1 + 1 + 1 + 1)), .int .i64 0] ∧ litG 52 #[.pointer (some ⟨gX, 1, none⟩), .pointer (some ⟨gX, 3, none⟩), .pointer (some ⟨gX, 5, none⟩)] ga u ∧ litG 54 #[.pointer (some ⟨gX, 5, none⟩), .pointer (some ⟨gX, 6, none⟩)] gb2 u) (stS 3 ⟨gX, 5, none⟩ (.int .i64 (numV ws (i + 1 + 1 + 1 + 1 + 1)))) (fun w1 hw h => h.2.1.store1 (by kernel_rfl) rfl (by simp) rfl) (fun u h b hb => by obtain rfl : b = gX := by { simpa using hb }; exact ⟨lx, h.2.1.own⟩) (fun wa u e1 e2 h hG => ⟨PB.mutX h.1 hX e2, hG, lit_left h.2.2.1 e2 (by simp [gaX]), lit_left h.2.2.2 e2 (by simp [hgb2.2.2])⟩) (by kernel_rfl) (by kernel_rfl) ?_
      refine Good.run (by kernel_rfl) (stop := 1000) 1000 _ ?_
      refine Good.ask (ldS 24 ⟨gE, 0, none⟩) (.int .i64 (numE ws (i + 1 + 1 + 1 + 1 + 1))) (by kernel_rfl) (fun w1 hw h => run_ldS (by kernel_rfl) (PB.be h.1).one) ?_
      refine Good.run (by kernel_rfl) (stop := 1000) 1000 _ ?_
      refine Good.condr ((numE ws (i + 1 + 1 + 1 + 1 + 1) != 0)) true (by kernel_rfl) (by simpa using e2a) ?_
      refine Good.run (by kernel_rfl) (stop := 1000) 1000 _ ?_
      refine Good.askAt 0 (ldS 3 ⟨gA, 0, none⟩) (.int .i64 ((i + 1 + 1 + 1 + 1 + 1 : Nat) : Int)) (by kernel_rfl) (fun w1 hw h => run_ldS (by kernel_rfl) (PB.ba h.1).one) ?_
      refine Good.run (by kernel_rfl) (stop := 1000) 1000 _ ?_
      refine Good.askAt 1 (ldS 24 ⟨gE, 0, none⟩) (.int .i64 (numE ws (i + 1 + 1 + 1 + 1 + 1))) (by kernel_rfl) (fun w1 hw h => run_ldS (by kernel_rfl) (PB.be h.1).one) ?_
      refine Good.run (by kernel_rfl) (stop := 1000) 1000 _ ?_
      refine Good.leave (by kernel_rfl) ?_
      refine Good.run (by kernel_rfl) (stop := 1000) 1000 _ ?_
      refine Good.ret (v := .tuple #[.slice none 0 0, .int .i64 ((i + 1 + 1 + 1 + 1 + 1 : Nat) : Int), .int .i64 (numE ws (i + 1 + 1 + 1 + 1 + 1))]) (by kernel_rfl) (fun w1 hw h => ⟨(none, 0), rfl, hw, fun _ _ _ => ⟨rfl, fun k s hk => by simp at hk⟩⟩)
    have hlt20 : i + 1 + 1 + 1 + 1 + 1 < n := by
      rcases Nat.lt_or_ge (i + 1 + 1 + 1 + 1 + 1) n with h1 | h1
      · exact h1
      · rw [numE, List.getElem?_eq_none (by omega)] at e2a; exact absurd e2a (by decide)
    refine Good.mut (L := [gA, gE]) (Φ' := fun _ u => PB w.heap.size gW gA gE A n n ws y m yc acc (i + 1 + 1 + 1 + 1 + 1 + 1) (0) u ∧ BoxAt u gX [.int .i64 4, .int .i64 (numV ws (i + 1)), .int .i64 (numV ws (i + 1 + 1)), .int .i64 (numV ws (i + 1 + 1 + 1)), .int .i64 (numV ws (i + 1 + 1 + 1 + 1)), .int .i64 0, .int .i64 0] ∧ litG 52 #[.pointer (some ⟨gX, 1, none⟩), .pointer (some ⟨gX, 3, none⟩), .pointer (some ⟨gX, 5, none⟩)] ga u ∧ litG 54 #[.pointer (some ⟨gX, 5, none⟩), .pointer (some ⟨gX, 6, none⟩)] gb2 u) (fun w1 hw h => next_v (i' := i + 1 + 1 + 1 + 1 + 1 + 1) (e' := 0) hw h.1.1 D (show i + 1 + 1 + 1 + 1 + 1 ≤ n from by omega) (by omega) hmem (if_pos e2a) e2a rfl) (fun u h => PB.own h.1.1 D) (fun _ wa u e1 e2 h hG => ⟨PB.mutAE h.1.1 D e2 hG, BoxAt.left h.1.2.1 e2 (by simp [xa, xe]), lit_left h.1.2.2.1 e2 (by simp [gaA, gaE]), lit_left h.2.1 e2 (by simp [hgb2.1, hgb2.2.1])⟩) (by kernel_rfl) (by kernel_rfl) (fun _ => ?_)
    refine Good.run (by kernel_rfl) (stop := 1000) 1000 _ ?_
    refine Good.mutSt (L := [gX]) (G := fun u => BoxAt u gX [.int .i64 4, .int .i64 (numV ws (i + 1)), .int .i64 (numV ws (i + 1 + 1)), .int .i64 (numV ws (i + 1 + 1 + 1)), .int .i64 (numV ws (i + 1 + 1 + 1 + 1)), .int .i64 (numV ws (i + 1 + 1 + 1 + 1 + 1)), .int .i64 0]) (Φ' := fun u => PB w.heap.size gW gA gE A n n ws y m yc acc (i + 1 + 1 + 1 + 1 + 1 + 1) (0) u ∧ BoxAt u gX [.int .i64 4, .int .i64 (numV ws (i + 1)), .int .i64 (numV ws (i + 1 + 1)), .int .i64 (numV ws (i + 1 + 1 + 1)), .int .i64 (numV ws (i + 1 + 1 + 1 + 1)), .int .i64 (numV ws (i + 1 + 1 + 1 + 1 + 1)), .int .i64 0] ∧ litG 52 #[.pointer (some ⟨gX, 1, none⟩), .pointer (some ⟨gX, 3, none⟩), .pointer (some ⟨gX, 5, none⟩)] ga u ∧ litG 54 #[.pointer (some ⟨gX, 5, none⟩), .pointer (some ⟨gX, 6, none⟩)] gb2 u) (stS 3 ⟨gX, 5, none⟩ (.int .i64 (numV ws (i + 1 + 1 + 1 + 1 + 1)))) (fun w1 hw h => h.2.1.store1 (by kernel_rfl) rfl (by simp) rfl) (fun u h b hb => by obtain rfl : b = gX := by { simpa using hb }; exact ⟨lx, h.2.1.own⟩) (fun wa u e1 e2 h hG => ⟨PB.mutX h.1 hX e2, hG, lit_left h.2.2.1 e2 (by simp [gaX]), lit_left h.2.2.2 e2 (by simp [hgb2.2.2])⟩) (by kernel_rfl) (by kernel_rfl) ?_
    refine Good.run (by kernel_rfl) (stop := 1000) 1000 _ ?_
    refine Good.ask (ldS 24 ⟨gE, 0, none⟩) (.int .i64 (0)) (by kernel_rfl) (fun w1 hw h => run_ldS (by kernel_rfl) (PB.be h.1).one) ?_
    refine Good.run (by kernel_rfl) (stop := 1000) 1000 _ ?_
    refine Good.cond false (by kernel_rfl) ?_
    refine Good.run (by kernel_rfl) (stop := 1000) 1000 _ ?_
    refine Good.cond true (by kernel_rfl) ?_
    refine Good.run (by kernel_rfl) (stop := 1000) 1000 _ ?_
    refine Good.ask (idxS 55 (.slice (some ⟨gb2, 0, none⟩) 2 2) (1 : Nat)) (.pointer (some ⟨gb2, 1 * 1, none⟩)) (by kernel_rfl) (fun w1 hw h => run_idxN (elem := 54) (by kernel_rfl) (by kernel_rfl) (by decide)) ?_
    refine Good.run (by kernel_rfl) (stop := 1000) 1000 _ ?_
    refine Good.ask (ldS 54 ⟨gb2, 1 * 1, none⟩) (.pointer (some ⟨gX, 6, none⟩)) (by kernel_rfl) (fun w1 hw h => run_ldS (by kernel_rfl) (lit_cell h.2.2.2 rfl)) ?_
    refine Good.run (by kernel_rfl) (stop := 1000) 1000 _ ?_
    by_cases e2b : numE ws (i + 1 + 1 + 1 + 1 + 1 + 1) = 0
    case neg =>
      have hf : failAt ws (2 * (namedI 4).toNat) (i + 1) = some (i + 1 + 1 + 1 + 1 + 1 + 1) := by
        show failAt ws 6 (i + 1) = _
        rw [failAt, if_pos e0a, failAt, if_pos e0b, failAt, if_pos e1a, failAt, if_pos e1b, failAt, if_pos e2a, failAt, if_neg e2b]
      rw [pw_fail hx hv (by decide) hf] at hR
      obtain ⟨rfl, rfl, rfl⟩ : [] = out ∧ i + 1 + 1 + 1 + 1 + 1 + 1 = at_ ∧ numE ws (i + 1 + 1 + 1 + 1 + 1 + 1) = e := by cases hR; exact ⟨rfl, rfl, rfl⟩
      refine Good.mut (L := [gA, gE]) (Φ' := fun _ u => PB w.heap.size gW gA gE A n n ws y m yc acc (i + 1 + 1 + 1 + 1 + 1 + 1) (numE ws (i + 1 + 1 + 1 + 1 + 1 + 1)) u ∧ BoxAt u gX [.int .i64 4, .int .i64 (numV ws (i + 1)), .int .i64 (numV ws (i + 1 + 1)), .int .i64 (numV ws (i + 1 + 1 + 1)), .int .i64 (numV ws (i + 1 + 1 + 1 + 1)), .int .i64 (numV ws (i + 1 + 1 + 1 + 1 + 1)), .int .i64 0] ∧ litG 52 #[.pointer (some ⟨gX, 1, none⟩), .pointer (some ⟨gX, 3, none⟩), .pointer (some ⟨gX, 5, none⟩)] ga u ∧ litG 54 #[.pointer (some ⟨gX, 5, none⟩), .pointer (some ⟨gX, 6, none⟩)] gb2 u) (fun w1 hw h => next_v (i' := i + 1 + 1 + 1 + 1 + 1 + 1) (e' := numE ws (i + 1 + 1 + 1 + 1 + 1 + 1)) hw h.1 D (show i + 1 + 1 + 1 + 1 + 1 + 1 ≤ n from by omega) (by omega) hmem (if_neg e2b) rfl rfl) (fun u h => PB.own h.1 D) (fun _ wa u e1 e2 h hG => ⟨PB.mutAE h.1 D e2 hG, BoxAt.left h.2.1 e2 (by simp [xa, xe]), lit_left h.2.2.1 e2 (by simp [gaA, gaE]), lit_left h.2.2.2 e2 (by simp [hgb2.1, hgb2.2.1])⟩) (by kernel_rfl) (by kernel_rfl) (fun _ => ?_)
      refine Good.run (by kernel_rfl) (stop := 1000) 1000 _ ?_
      refine Good.mutSt (L := [gX]) (G := fun u => BoxAt u gX [.int .i64 4, .int .i64 (numV ws (i + 1)), .int .i64 (numV ws (i + 1 + 1)), .int .i64 (numV ws (i + 1 + 1 + 1)), .int .i64 (numV ws (i + 1 + 1 + 1 + 1)), .int .i64 (numV ws (i + 1 + 1 + 1 + 1 + 1)), .int .i64 (numV ws (i + 1 + 1 + 1 + 1 + 1 + 1))]) (Φ' := fun u => PB w.heap.size gW gA gE A n n ws y m yc acc (i + 1 + 1 + 1 + 1 + 1 + 1) (numE ws (i + 1 + 1 + 1 + 1 + 1 + 1)) u ∧ BoxAt u gX [.int .i64 4, .int .i64 (numV ws (i + 1)), .int .i64 (numV ws (i + 1 + 1)), .int .i64 (numV ws (i + 1 + 1 + 1)), .int .i64 (numV ws (i + 1 + 1 + 1 + 1)), .int .i64 (numV ws (i + 1 + 1 + 1 + 1 + 1)), .int .i64 (numV ws (i + 1 + 1 + 1 + 1 + 1 + 1))] ∧ litG 52 #[.pointer (some ⟨gX, 1, none⟩), .pointer (some ⟨gX, 3, none⟩), .pointer (some ⟨gX, 5, none⟩)] ga u ∧ litG 54 #[.pointer (some ⟨gX, 5, none⟩), .pointer (some ⟨gX, 6, none⟩)] gb2 u) (stS 3 ⟨gX, 6, none⟩ (.int .i64 (numV ws (i + 1 + 1 + 1 + 1 + 1 + 1)))) (fun w1 hw h => h.2.1.store1 (by kernel_rfl) rfl (by simp) rfl) (fun u h b hb => by obtain rfl : b = gX := by { simpa using hb }; exact ⟨lx, h.2.1.own⟩) (fun wa u e1 e2 h hG => ⟨PB.mutX h.1 hX e2, hG, lit_left h.2.2.1 e2 (by simp [gaX]), lit_left h.2.2.2 e2 (by simp [hgb2.2.2])⟩) (by kernel_rfl) (by kernel_rfl) ?_
      refine Good.run (by kernel_rfl) (stop := 1000) 1000 _ ?_
      refine Good.ask (ldS 24 ⟨gE, 0, none⟩) (.int .i64 (numE ws (i + 1 + 1 + 1 + 1 + 1 + 1))) (by kernel_rfl) (fun w1 hw h => run_ldS (by kernel_rfl) (PB.be h.1).one) ?_
      refine Good.run (by kernel_rfl) (stop := 1000) 1000 _ ?_
      refine Good.condr ((numE ws (i + 1 + 1 + 1 + 1 + 1 + 1) != 0)) true (by kernel_rfl) (by simpa using e2b) ?_
      refine Good.run (by kernel_rfl) (stop := 1000) 1000 _ ?_
      refine Good.askAt 0 (ldS 3 ⟨gA, 0, none⟩) (.int .i64 ((i + 1 + 1 + 1 + 1 + 1 + 1 : Nat) : Int)) (by kernel_rfl) (fun w1 hw h => run_ldS (by kernel_rfl) (PB.ba h.1).one) ?_
      refine Good.run (by kernel_rfl) (stop := 1000) 1000 _ ?_
      refine Good.askAt 1 (ldS 24 ⟨gE, 0, none⟩) (.int .i64 (numE ws (i + 1 + 1 + 1 + 1 + 1 + 1))) (by kernel_rfl) (fun w1 hw h => run_ldS (by kernel_rfl) (PB.be h.1).one) ?_
      refine Good.run (by kernel_rfl) (stop := 1000) 1000 _ ?_
      refine Good.leave (by kernel_rfl) ?_
      refine Good.run (by kernel_rfl) (stop := 1000) 1000 _ ?_
      refine Good.ret (v := .tuple #[.slice none 0 0, .int .i64 ((i + 1 + 1 + 1 + 1 + 1 + 1 : Nat) : Int), .int .i64 (numE ws (i + 1 + 1 + 1 + 1 + 1 + 1))]) (by kernel_rfl) (fun w1 hw h => ⟨(none, 0), rfl, hw, fun _ _ _ => ⟨rfl, fun k s hk => by simp at hk⟩⟩)
    have hlt21 : i + 1 + 1 + 1 + 1 + 1 + 1 < n := by
      rcases Nat.lt_or_ge (i + 1 + 1 + 1 + 1 + 1 + 1) n with h1 | h1
      · exact h1
      · rw [numE, List.getElem?_eq_none (by omega)] at e2b; exact absurd e2b (by decide)
    refine Good.mut (L := [gA, gE]) (Φ' := fun _ u => PB w.heap.size gW gA gE A n n ws y m yc acc (i + 1 + 1 + 1 + 1 + 1 + 1 + 1) (0) u ∧ BoxAt u gX [.int .i64 4, .int .i64 (numV ws (i + 1)), .int .i64 (numV ws (i + 1 + 1)), .int .i64 (numV ws (i + 1 + 1 + 1)), .int .i64 (numV ws (i + 1 + 1 + 1 + 1)), .int .i64 (numV ws (i + 1 + 1 + 1 + 1 + 1)), .int .i64 0] ∧ litG 52 #[.pointer (some ⟨gX, 1, none⟩), .pointer (some ⟨gX, 3, none⟩), .pointer (some ⟨gX, 5, none⟩)] ga u ∧ litG 54 #[.pointer (some ⟨gX, 5, none⟩), .pointer (some ⟨gX, 6, none⟩)] gb2 u) (fun w1 hw h => next_v (i' := i + 1 + 1 + 1 + 1 + 1 + 1 + 1) (e' := 0) hw h.1 D (show i + 1 + 1 + 1 + 1 + 1 + 1 ≤ n from by omega) (by omega) hmem (if_pos e2b) e2b rfl) (fun u h => PB.own h.1 D) (fun _ wa u e1 e2 h hG => ⟨PB.mutAE h.1 D e2 hG, BoxAt.left h.2.1 e2 (by simp [xa, xe]), lit_left h.2.2.1 e2 (by simp [gaA, gaE]), lit_left h.2.2.2 e2 (by simp [hgb2.1, hgb2.2.1])⟩) (by kernel_rfl) (by kernel_rfl) (fun _ => ?_)
    refine Good.run (by kernel_rfl) (stop := 1000) 1000 _ ?_
    refine Good.mutSt (L := [gX]) (G := fun u => BoxAt u gX [.int .i64 4, .int .i64 (numV ws (i + 1)), .int .i64 (numV ws (i + 1 + 1)), .int .i64 (numV ws (i + 1 + 1 + 1)), .int .i64 (numV ws (i + 1 + 1 + 1 + 1)), .int .i64 (numV ws (i + 1 + 1 + 1 + 1 + 1)), .int .i64 (numV ws (i + 1 + 1 + 1 + 1 + 1 + 1))]) (Φ' := fun u => PB w.heap.size gW gA gE A n n ws y m yc acc (i + 1 + 1 + 1 + 1 + 1 + 1 + 1) (0) u ∧ BoxAt u gX [.int .i64 4, .int .i64 (numV ws (i + 1)), .int .i64 (numV ws (i + 1 + 1)), .int .i64 (numV ws (i + 1 + 1 + 1)), .int .i64 (numV ws (i + 1 + 1 + 1 + 1)), .int .i64 (numV ws (i + 1 + 1 + 1 + 1 + 1)), .int .i64 (numV ws (i + 1 + 1 + 1 + 1 + 1 + 1))] ∧ litG 52 #[.pointer (some ⟨gX, 1, none⟩), .pointer (some ⟨gX, 3, none⟩), .pointer (some ⟨gX, 5, none⟩)] ga u ∧ litG 54 #[.pointer (some ⟨gX, 5, none⟩), .pointer (some ⟨gX, 6, none⟩)] gb2 u) (stS 3 ⟨gX, 6, none⟩ (.int .i64 (numV ws (i + 1 + 1 + 1 + 1 + 1 + 1)))) (fun w1 hw h => h.2.1.store1 (by kernel_rfl) rfl (by simp) rfl) (fun u h b hb => by obtain rfl : b = gX := by { simpa using hb }; exact ⟨lx, h.2.1.own⟩) (fun wa u e1 e2 h hG => ⟨PB.mutX h.1 hX e2, hG, lit_left h.2.2.1 e2 (by simp [gaX]), lit_left h.2.2.2 e2 (by simp [hgb2.2.2])⟩) (by kernel_rfl) (by kernel_rfl) ?_
    refine Good.run (by kernel_rfl) (stop := 1000) 1000 _ ?_
    refine Good.ask (ldS 24 ⟨gE, 0, none⟩) (.int .i64 (0)) (by kernel_rfl) (fun w1 hw h => run_ldS (by kernel_rfl) (PB.be h.1).one) ?_
    refine Good.run (by kernel_rfl) (stop := 1000) 1000 _ ?_
    refine Good.cond false (by kernel_rfl) ?_
    refine Good.run (by kernel_rfl) (stop := 1000) 1000 _ ?_
    refine Good.cond false (by kernel_rfl) ?_
    refine Good.run (by kernel_rfl) (stop := 1000) 1000 _ ?_
    refine Good.cond false (by kernel_rfl) ?_
    refine Good.run (by kernel_rfl) (stop := 1000) 1000 _ ?_
    have hf : failAt ws (2 * (namedI 4).toNat) (i + 1) = none := by
      show failAt ws 6 (i + 1) = _
      rw [failAt, if_pos e0a, failAt, if_pos e0b, failAt, if_pos e1a, failAt, if_pos e1b, failAt, if_pos e2a, failAt, if_pos e2b, failAt]
    rw [pw_step hx hv (by decide) hf] at hR
    refine Good.ask (ldS 41 ⟨gX, 0, none⟩) (Sg.val ⟨4, numV ws (i + 1), numV ws (i + 1 + 1), numV ws (i + 1 + 1 + 1), numV ws (i + 1 + 1 + 1 + 1), numV ws (i + 1 + 1 + 1 + 1 + 1), numV ws (i + 1 + 1 + 1 + 1 + 1 + 1)⟩) (by kernel_rfl) (fun w1 hw h => run_ldN (vs := Sg.cl ⟨4, numV ws (i + 1), numV ws (i + 1 + 1), numV ws (i + 1 + 1 + 1), numV ws (i + 1 + 1 + 1 + 1), numV ws (i + 1 + 1 + 1 + 1 + 1), numV ws (i + 1 + 1 + 1 + 1 + 1 + 1)⟩) (by kernel_rfl) (by kernel_rfl) (BoxAt.range h.2.1)) ?_
    refine Good.run (by kernel_rfl) (stop := 1000) 1000 _ ?_
    refine Good.make (litS 22 1 #[(0, Sg.val ⟨4, numV ws (i + 1), numV ws (i + 1 + 1), numV ws (i + 1 + 1 + 1), numV ws (i + 1 + 1 + 1 + 1), numV ws (i + 1 + 1 + 1 + 1 + 1), numV ws (i + 1 + 1 + 1 + 1 + 1 + 1)⟩)]) (litV 1) (litG 41 (Sg.cl ⟨4, numV ws (i + 1), numV ws (i + 1 + 1), numV ws (i + 1 + 1 + 1), numV ws (i + 1 + 1 + 1 + 1), numV ws (i + 1 + 1 + 1 + 1 + 1), numV ws (i + 1 + 1 + 1 + 1 + 1 + 1)⟩).toArray) (by kernel_rfl) (fun w1 hw h => make_lit (by kernel_rfl)) (fun gb => ?_)
    refine Good.run (by kernel_rfl) (stop := 3) 1000 _ ?_
    refine Good.mutOp (L := bl y) (val := fun (z : Option Addr × Nat) => .slice z.1 (m + 1) z.2) (Φ' := fun (z : Option Addr × Nat) u => PB w.heap.size gW gA gE A n n ws z.1 (m + 1) z.2 (acc ++ [Sg.mk 4 (numV ws (i + 1)) (numV ws (i + 1 + 1)) (numV ws (i + 1 + 1 + 1)) (numV ws (i + 1 + 1 + 1 + 1)) (numV ws (i + 1 + 1 + 1 + 1 + 1)) (numV ws (i + 1 + 1 + 1 + 1 + 1 + 1))]) (i + 1 + 1 + 1 + 1 + 1 + 1 + 1) 0 u) (G := fun (z : Option Addr × Nat) vv => OwnR vv w.heap.size 41 7 z.1 (m + 1) z.2 (gv (acc ++ [Sg.mk 4 (numV ws (i + 1)) (numV ws (i + 1 + 1)) (numV ws (i + 1 + 1 + 1)) (numV ws (i + 1 + 1 + 1 + 1)) (numV ws (i + 1 + 1 + 1 + 1 + 1)) (numV ws (i + 1 + 1 + 1 + 1 + 1 + 1))]))) (appS 22 22 (.slice y m yc) (litV 1 gb)) (fun w1 hw h => app_seg (PB.ow h.1.1) hw.size h.2 (show m < 1000000 from by omega)) (fun w1 h => fun b hb => ⟨((PB.ow h.1.1).lt b hb).1, ((PB.ow h.1.1).blk b hb).2⟩) (fun z wa w1 e1 e2 h hG => PB.app h.1.1 D e2 hG) (by kernel_rfl) (by kernel_rfl) (fun z => ?_)
    refine Good.run (by kernel_rfl) (stop := 1000) 1000 _ ?_
    refine Good.next (⟨((i + 1 + 1 + 1 + 1 + 1 + 1 + 1, m + 1, acc ++ [Sg.mk 4 (numV ws (i + 1)) (numV ws (i + 1 + 1)) (numV ws (i + 1 + 1 + 1)) (numV ws (i + 1 + 1 + 1 + 1)) (numV ws (i + 1 + 1 + 1 + 1 + 1)) (numV ws (i + 1 + 1 + 1 + 1 + 1 + 1))]), z), by show i + 1 + 1 + 1 + 1 + 1 + 1 + 1 ≤ n; omega, by show m + 1 ≤ i + 1 + 1 + 1 + 1 + 1 + 1 + 1; omega, by show (acc ++ _).length = m + 1; rw [List.length_append, hacc]; rfl, fun h => absurd (show m + 1 = 0 from h) (by omega), hR⟩) (by kernel_rfl) (by show n - (i + 1 + 1 + 1 + 1 + 1 + 1 + 1) < n - i; omega) ⟨by kernel_rfl, by kernel_rfl, by kernel_rfl⟩ (fun u h => h)
  ·
    refine Good.callv (fun w1 hw h => verb_m hv) (by kernel_rfl) (fun u => ?_)
    refine Good.run (by kernel_rfl) (stop := 6) 1000 _ ?_
    refine Good.make (allS 41) (ptr) (fun g u => BoxAt u g [.int .i64 0, .int .i64 0, .int .i64 0, .int .i64 0, .int .i64 0, .int .i64 0, .int .i64 0] ∧ w.heap.size ≤ g ∧ g ∉ gW :: gA :: gE :: (bl A ++ bl y)) (by kernel_rfl) (fun w1 hw h => make_allF (z := Sg.val ⟨0, 0, 0, 0, 0, 0, 0⟩) (by kernel_rfl) hw.size (PB.lts h.1 (hAlt _ h.1))) (fun gX => ?_)
    refine Good.run (by kernel_rfl) (stop := 1000) 1000 _ ?_
    refine Good.pure_ (p := w.heap.size ≤ gX ∧ gX ∉ gW :: gA :: gE :: (bl A ++ bl y)) (fun u hu h => h.2.2) (by kernel_rfl) (fun hp => ?_)
    obtain ⟨lx, hX⟩ := hp
    have hX2 := hX
    simp only [List.mem_cons, List.mem_append, not_or] at hX2
    obtain ⟨xw, xa, xe, xs, xy⟩ := hX2
    refine Good.mutSt (L := [gX]) (G := fun u => BoxAt u gX [.int .i64 5, .int .i64 0, .int .i64 0, .int .i64 0, .int .i64 0, .int .i64 0, .int .i64 0]) (Φ' := fun u => PB w.heap.size gW gA gE A n n ws y m yc acc (i) (0) u ∧ BoxAt u gX [.int .i64 5, .int .i64 0, .int .i64 0, .int .i64 0, .int .i64 0, .int .i64 0, .int .i64 0]) (stS 41 ⟨gX, 0, none⟩ (Sg.val ⟨5, 0, 0, 0, 0, 0, 0⟩)) (fun w1 hw h => h.2.1.store (by kernel_rfl) rfl (by intro u hu; simp [Value.cells] at hu; rcases hu with rfl | rfl <;> rfl)) (fun u h b hb => by obtain rfl : b = gX := by { simpa using hb }; exact ⟨lx, h.2.1.own⟩) (fun wa u e1 e2 h hG => ⟨PB.mutX h.1.1 hX e2, hG⟩) (by kernel_rfl) (by kernel_rfl) ?_
    refine Good.run (by kernel_rfl) (stop := 1000) 1000 _ ?_
    refine Good.ask (ldS 3 ⟨gX, 0, none⟩) (.int .i64 5) (by kernel_rfl) (fun w1 hw h => run_ldS (by kernel_rfl) (h.2.cell)) ?_
    refine Good.run (by kernel_rfl) (stop := 1000) 1000 _ ?_
    refine Good.cond false (by kernel_rfl) ?_
    refine Good.run (by kernel_rfl) (stop := 1000) 1000 _ ?_
    refine Good.ask (ldS 3 ⟨gA, 0, none⟩) (.int .i64 i) (by kernel_rfl) (fun w1 hw h => run_ldS (by kernel_rfl) (PB.ba h.1).one) ?_
    refine Good.run (by kernel_rfl) (stop := 1000) 1000 _ ?_
    refine Good.slot 41 (.int .i64 (IntKind.i64.wrap ((i : Int) + 1))) (.int .i64 ((i + 1 : Nat) : Int)) (by kernel_rfl) (by rw [wrap_succ hlt (by omega)]) ?_
    refine Good.mutSt (L := [gA]) (G := fun u => BoxAt u gA [.int .i64 ((i + 1 : Nat) : Int)]) (Φ' := fun u => PB w.heap.size gW gA gE A n n ws y m yc acc (i + 1) (0) u ∧ BoxAt u gX [.int .i64 5, .int .i64 0, .int .i64 0, .int .i64 0, .int .i64 0, .int .i64 0, .int .i64 0]) (stS 3 ⟨gA, 0, none⟩ (.int .i64 ((i + 1 : Nat) : Int))) (fun w1 hw h => (PB.ba h.1).store (by kernel_rfl) rfl (by intro u hu; simp [Value.cells] at hu; subst hu; rfl)) (fun u h b hb => by obtain rfl : b = gA := by { simpa using hb }; exact ⟨la, (PB.ba h.1).own⟩) (fun wa u e1 e2 h hG => ⟨PB.mutA h.1 D e2 hG, h.2.left e2 (by simp [xa])⟩) (by kernel_rfl) (by kernel_rfl) ?_
    refine Good.run (by kernel_rfl) (stop := 1000) 1000 _ ?_
    refine Good.make (litS 53 3 #[(0, .pointer (some ⟨gX, 1, none⟩)), (1, .pointer (some ⟨gX, 3, none⟩)), (2, .pointer (some ⟨gX, 5, none⟩))]) (litV 3) (fun g u => litG 52 #[.pointer (some ⟨gX, 1, none⟩), .pointer (some ⟨gX, 3, none⟩), .pointer (some ⟨gX, 5, none⟩)] g u ∧ g ∉ [gA, gE, gX]) (by kernel_rfl) (fun w1 hw h => make_litF (by kernel_rfl) (by intro b hb; simp only [List.mem_cons, List.not_mem_nil, or_false] at hb; rcases hb with rfl | rfl | rfl; exact (PB.ba h.1).lt; exact (PB.be h.1).lt; exact h.2.lt)) (fun ga => ?_)
    refine Good.run (by kernel_rfl) (stop := 1000) 1000 _ ?_
    refine Good.pure_ (p := ga ∉ [gA, gE, gX]) (fun u hu h => h.2.2) (by kernel_rfl) (fun hga => ?_)
    have hga2 := hga
    simp only [List.mem_cons, List.not_mem_nil, or_false, not_or] at hga2
    obtain ⟨gaA, gaE, gaX⟩ := hga2
    refine Good.ask (ldS 3 ⟨gX, 0, none⟩) (.int .i64 5) (by kernel_rfl) (fun w1 hw h => run_ldS (by kernel_rfl) (h.1.2.cell)) ?_
    refine Good.run (by kernel_rfl) (stop := 1000) 1000 _ ?_
    refine Good.callv (fun w1 hw h => points_m (v := 5) (r := 0) (by decide) rfl) (by kernel_rfl) (fun u => ?_)
    refine Good.run (by kernel_rfl) (stop := 4) 1000 _ ?_
    refine Good.ask (slH 53 (.slice (some ⟨ga, 0, none⟩) 3 3) (0 : Nat)) (.slice (some ⟨ga, 0, none⟩) 0 3) (by kernel_rfl) (fun w1 hw h => run_slH (e := 52) (by kernel_rfl) (by kernel_rfl) (by kernel_rfl) (by decide)) ?_
    refine Good.run (by kernel_rfl) (stop := 1000) 1000 _ ?_
    refine Good.un (by kernel_rfl) ?_
    refine Good.run (by kernel_rfl) (stop := 1000) 1000 _ ?_
    refine Good.cond false (by kernel_rfl) ?_
    refine Good.run (by kernel_rfl) (stop := 1000) 1000 _ ?_
    have hf : failAt ws (2 * (namedI 5).toNat) (i + 1) = none := by
      show failAt ws 0 (i + 1) = _
      rw [failAt]
    rw [pw_step hx hv (by decide) hf] at hR
    refine Good.ask (ldS 41 ⟨gX, 0, none⟩) (Sg.val ⟨5, 0, 0, 0, 0, 0, 0⟩) (by kernel_rfl) (fun w1 hw h => run_ldN (vs := Sg.cl ⟨5, 0, 0, 0, 0, 0, 0⟩) (by kernel_rfl) (by kernel_rfl) (BoxAt.range h.1.1.2)) ?_
    refine Good.run (by kernel_rfl) (stop := 1000) 1000 _ ?_
    refine Good.make (litS 22 1 #[(0, Sg.val ⟨5, 0, 0, 0, 0, 0, 0⟩)]) (litV 1) (litG 41 (Sg.cl ⟨5, 0, 0, 0, 0, 0, 0⟩).toArray) (by kernel_rfl) (fun w1 hw h => make_lit (by kernel_rfl)) (fun gb => ?_)
    refine Good.run (by kernel_rfl) (stop := 3) 1000 _ ?_
    refine Good.mutOp (L := bl y) (val := fun (z : Option Addr × Nat) => .slice z.1 (m + 1) z.2) (Φ' := fun (z : Option Addr × Nat) u => PB w.heap.size gW gA gE A n n ws z.1 (m + 1) z.2 (acc ++ [Sg.mk 5 0 0 0 0 0 0]) (i + 1) 0 u) (G := fun (z : Option Addr × Nat) vv => OwnR vv w.heap.size 41 7 z.1 (m + 1) z.2 (gv (acc ++ [Sg.mk 5 0 0 0 0 0 0]))) (appS 22 22 (.slice y m yc) (litV 1 gb)) (fun w1 hw h => app_seg (PB.ow h.1.1.1.1) hw.size h.2 (show m < 1000000 from by omega)) (fun w1 h => fun b hb => ⟨((PB.ow h.1.1.1.1).lt b hb).1, ((PB.ow h.1.1.1.1).blk b hb).2⟩) (fun z wa w1 e1 e2 h hG => PB.app h.1.1.1.1 D e2 hG) (by kernel_rfl) (by kernel_rfl) (fun z => ?_)
    refine Good.run (by kernel_rfl) (stop := 1000) 1000 _ ?_
    refine Good.next (⟨((i + 1, m + 1, acc ++ [Sg.mk 5 0 0 0 0 0 0]), z), by show i + 1 ≤ n; omega, by show m + 1 ≤ i + 1; omega, by show (acc ++ _).length = m + 1; rw [List.length_append, hacc]; rfl, fun h => absurd (show m + 1 = 0 from h) (by omega), hR⟩) (by kernel_rfl) (by show n - (i + 1) < n - i; omega) ⟨by kernel_rfl, by kernel_rfl, by kernel_rfl⟩ (fun u h => h)
  · rw [pw_verb hx hv] at hR
    obtain ⟨rfl, rfl, rfl⟩ : [] = out ∧ i = at_ ∧ 3 = e := by cases hR; exact ⟨rfl, rfl, rfl⟩
    refine Good.callv (fun w1 hw h => verb_m hv) (by kernel_rfl) (fun u => ?_)
    refine Good.run (by kernel_rfl) (stop := 6) 1000 _ ?_
    refine Good.make (allS 41) (ptr) (fun g u => BoxAt u g [.int .i64 0, .int .i64 0, .int .i64 0, .int .i64 0, .int .i64 0, .int .i64 0, .int .i64 0] ∧ w.heap.size ≤ g ∧ g ∉ gW :: gA :: gE :: (bl A ++ bl y)) (by kernel_rfl) (fun w1 hw h => make_allF (z := Sg.val ⟨0, 0, 0, 0, 0, 0, 0⟩) (by kernel_rfl) hw.size (PB.lts h.1 (hAlt _ h.1))) (fun gX => ?_)
    refine Good.run (by kernel_rfl) (stop := 1000) 1000 _ ?_
    refine Good.pure_ (p := w.heap.size ≤ gX ∧ gX ∉ gW :: gA :: gE :: (bl A ++ bl y)) (fun u hu h => h.2.2) (by kernel_rfl) (fun hp => ?_)
    obtain ⟨lx, hX⟩ := hp
    have hX2 := hX
    simp only [List.mem_cons, List.mem_append, not_or] at hX2
    obtain ⟨xw, xa, xe, xs, xy⟩ := hX2
    refine Good.mutSt (L := [gX]) (G := fun u => BoxAt u gX [.int .i64 0, .int .i64 0, .int .i64 0, .int .i64 0, .int .i64 0, .int .i64 0, .int .i64 0]) (Φ' := fun u => PB w.heap.size gW gA gE A n n ws y m yc acc (i) (0) u ∧ BoxAt u gX [.int .i64 0, .int .i64 0, .int .i64 0, .int .i64 0, .int .i64 0, .int .i64 0, .int .i64 0]) (stS 41 ⟨gX, 0, none⟩ (Sg.val ⟨0, 0, 0, 0, 0, 0, 0⟩)) (fun w1 hw h => h.2.1.store (by kernel_rfl) rfl (by intro u hu; simp [Value.cells] at hu; rcases hu with rfl | rfl <;> rfl)) (fun u h b hb => by obtain rfl : b = gX := by { simpa using hb }; exact ⟨lx, h.2.1.own⟩) (fun wa u e1 e2 h hG => ⟨PB.mutX h.1.1 hX e2, hG⟩) (by kernel_rfl) (by kernel_rfl) ?_
    refine Good.run (by kernel_rfl) (stop := 1000) 1000 _ ?_
    refine Good.ask (ldS 3 ⟨gX, 0, none⟩) (.int .i64 0) (by kernel_rfl) (fun w1 hw h => run_ldS (by kernel_rfl) (h.2.cell)) ?_
    refine Good.run (by kernel_rfl) (stop := 1000) 1000 _ ?_
    refine Good.cond true (by kernel_rfl) ?_
    refine Good.run (by kernel_rfl) (stop := 1000) 1000 _ ?_
    refine Good.ask (ldS 3 ⟨gA, 0, none⟩) (.int .i64 i) (by kernel_rfl) (fun w1 hw h => run_ldS (by kernel_rfl) (PB.ba h.1).one) ?_
    refine Good.run (by kernel_rfl) (stop := 1000) 1000 _ ?_
    refine Good.leave (by kernel_rfl) ?_
    refine Good.run (by kernel_rfl) (stop := 1000) 1000 _ ?_
    refine Good.ret (v := .tuple #[.slice none 0 0, .int .i64 i, .int .i64 3]) (by kernel_rfl) (fun w1 hw h => ⟨(none, 0), rfl, hw, fun _ _ _ => ⟨rfl, fun k s hk => by simp at hk⟩⟩)
end

end Go.Proofs.YtlpnjoenkohadaaDoor
