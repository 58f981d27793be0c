/-
  Quoting: fields and lines, program and reference.
-/
import Derived.Test.YtgkiopplcpnajaaDoorVd
namespace Go.Proofs.YtgkiopplcpnajaaDoor
set_option linter.unusedVariables false
set_option linter.unusedSimpArgs false
open Go.RowKit

/-! The cut at a byte, and what splitting is. -/
def cutC (c : UInt8) : List UInt8 → List UInt8 × List UInt8 × Bool
  | [] => ([], [], false)
  | b :: l => if b = c then ([], l, true) else (b :: (cutC c l).1, (cutC c l).2.1, (cutC c l).2.2)
theorem lib_cutC (c : UInt8) : ∀ (l : List UInt8), Lib.cut l [c] = cutC c l
  | [] => rfl
  | b :: l => by
    have ih := lib_cutC c l
    have hge := Lib.index_ge l [c]
    unfold Lib.cut at ih ⊢
    unfold cutC
    rw [Lib.index]
    by_cases hb : b = c
    · subst hb
      simp
    · have hp : [c].isPrefixOf (b :: l) = false := by
        simp only [List.isPrefixOf, Bool.and_true]
        exact beq_eq_false_iff_ne.2 (Ne.symm hb)
      rw [hp, if_neg hb, ← ih]
      by_cases h1 : Lib.index l [c] = -1
      · rw [h1]; rfl
      · obtain ⟨k, hk⟩ : ∃ k : Nat, Lib.index l [c] = k := ⟨(Lib.index l [c]).toNat, by omega⟩
        rw [hk]
        have e1 : ((k : Int) == -1) = false := beq_eq_false_iff_ne.2 (by omega)
        rw [e1]
        have e2 : ((k : Int) + 1).toNat = k + 1 := by omega
        have e3 : ((k : Int)).toNat = k := by omega
        simp only [Bool.false_eq_true, if_false, if_pos (show (0 : Int) ≤ (k : Int) + 1 by omega), if_pos (show (0 : Int) ≤ (k : Int) by omega), e2, e3, List.take_succ_cons, List.length_singleton, List.drop_succ_cons]
theorem cut_yes (c : UInt8) : ∀ {l : List UInt8}, (cutC c l).2.2 = true → splitBy c l = (cutC c l).1 :: splitBy c (cutC c l).2.1 ∧ (cutC c l).1.length + (cutC c l).2.1.length + 1 = l.length
  | [], h => by cases h
  | b :: l, h => by
    unfold cutC at h ⊢
    by_cases hb : b = c
    · subst hb
      simp only [if_true]
      exact ⟨splitBy_eq, by simp⟩
    · simp only [if_neg hb] at h ⊢
      have ih := cut_yes c (l := l) h
      refine ⟨?_, by have := ih.2; simp only [List.length_cons]; omega⟩
      rw [splitBy, if_neg hb, ih.1]
theorem cut_not (c : UInt8) : ∀ {l : List UInt8}, (cutC c l).2.2 = false → splitBy c l = [l] ∧ (cutC c l).1 = l
  | [], _ => ⟨rfl, rfl⟩
  | b :: l, h => by
    unfold cutC at h ⊢
    by_cases hb : b = c
    · subst hb
      simp only [if_true] at h
      cases h
    · simp only [if_neg hb] at h ⊢
      have ih := cut_not c (l := l) h
      rw [splitBy, if_neg hb, ih.1, ih.2]
      exact ⟨rfl, rfl⟩
theorem lib_split (c : UInt8) : ∀ (n : Nat) (l : List UInt8), l.length ≤ n → Lib.splitK [c] 0 (Lib.count l [c]) l = splitBy c l
  | n, l, hn => by
    have hc := lib_cutC c l
    have hge := Lib.index_ge l [c]
    unfold Lib.cut at hc
    by_cases h1 : Lib.index l [c] = -1
    · rw [if_neg (by omega)] at hc
      rw [Lib.count_miss h1, (cut_not c (l := l) (by rw [← hc])).1]
      rfl
    · obtain ⟨k, hk⟩ : ∃ k : Nat, Lib.index l [c] = k := ⟨(Lib.index l [c]).toNat, by omega⟩
      rw [if_pos (by omega), hk] at hc
      obtain ⟨h2, h3⟩ := cut_yes c (l := l) (by rw [← hc])
      rw [← hc] at h2 h3
      simp only [Int.toNat_natCast, List.length_singleton] at h2 h3
      have hcount := Lib.count_hit (sub := [c]) (s := l) (i := k) (by simp) hk
      match n, hn with
      | 0, hn => omega
      | n + 1, hn =>
        rw [hcount, Nat.add_comm, Lib.splitK, if_neg (by rw [hk]; simp), h2, hk]
        simp only [Int.toNat_natCast, Nat.add_zero, List.length_singleton] at h3 ⊢
        rw [lib_split c n (l.drop (k + 1)) (by omega)]
theorem lib_join (c : UInt8) (l : List (List UInt8)) : Lib.join l [c] = joinBy c l := by
  cases l with
  | nil => rfl
  | cons x l =>
    rw [Lib.join_cons]
    induction l generalizing x with
    | nil => simp [Lib.joinTail, joinBy]
    | cons y l ih =>
      show _ = x ++ c :: joinBy c (y :: l)
      rw [← ih y]
      simp [Lib.joinTail]
theorem join_snoc (c : UInt8) : ∀ (l : List (List UInt8)) (x : List UInt8), joinBy c (l ++ [x]) = if l = [] then x else joinBy c l ++ c :: x
  | [], x => rfl
  | [y], x => rfl
  | y :: z :: l, x => by
    have ih := join_snoc c (z :: l) x
    rw [if_neg (by simp)] at ih ⊢
    show y ++ c :: joinBy c ((z :: l) ++ [x]) = (y ++ c :: joinBy c (z :: l)) ++ c :: x
    rw [ih]; simp
/-- How long all the strings are together. -/
def sumL : List (List UInt8) → Nat
  | [] => 0
  | x :: l => x.length + sumL l
theorem join_len (c : UInt8) : ∀ l : List (List UInt8), (joinBy c l).length ≤ sumL l + l.length
  | [] => Nat.zero_le _
  | [x] => by simp [joinBy, sumL]
  | x :: y :: l => by
    have ih := join_len c (y :: l)
    show (x ++ c :: joinBy c (y :: l)).length ≤ x.length + sumL (y :: l) + _
    simp only [List.length_append, List.length_cons] at ih ⊢
    omega
theorem sum_quo : ∀ l : List (List UInt8), sumL (l.map quoL) ≤ 3 * sumL l + l.length
  | [] => Nat.zero_le _
  | x :: l => by
    have ih := sum_quo l
    have := (quo_len x).2
    simp only [List.map_cons, sumL, List.length_cons]
    omega
theorem joinF_len (l : List (List UInt8)) : (joinF l).length ≤ 3 * sumL l + 2 * l.length := by
  have h1 := join_len 32 (l.map quoL)
  have h2 := sum_quo l
  unfold joinF
  rw [List.length_map] at h1
  omega
theorem joinN_len : ∀ l : List (List UInt8), (joinN l).length = sumL l + l.length
  | [] => rfl
  | x :: l => by
    have ih := joinN_len l
    rw [joinN_cons]
    simp only [List.length_append, List.length_cons, sumL]
    omega
theorem sum_take : ∀ (l : List (List UInt8)) (k : Nat), sumL (l.take k) ≤ sumL l
  | [], k => by simp
  | x :: l, 0 => by simp [sumL]
  | x :: l, k + 1 => by
    have ih := sum_take l k
    simp only [List.take_succ_cons, sumL]; omega
theorem mem_sum : ∀ {l : List (List UInt8)} {x : List UInt8}, x ∈ l → x.length ≤ sumL l
  | y :: l, x, h => by
    simp only [sumL]
    rcases List.mem_cons.1 h with rfl | h
    · omega
    · have := mem_sum h; omega
theorem joinF_take (l : List (List UInt8)) (k : Nat) : (joinF (l.take k)).length ≤ 3 * sumL l + 2 * l.length := by
  have h1 := joinF_len (l.take k)
  have h2 := sum_take l k
  have h3 := List.length_take_le k l
  have h4 : (l.take k).length ≤ l.length := by rw [List.length_take]; omega
  omega
theorem joinN_take (l : List (List UInt8)) (k : Nat) : (joinN (l.take k)).length ≤ sumL l + l.length := by
  have h1 := joinN_len (l.take k)
  have h2 := sum_take l k
  have h4 : (l.take k).length ≤ l.length := by rw [List.length_take]; omega
  omega
theorem take_snoc {l : List (List UInt8)} {k : Nat} {x : List UInt8} (h : l[k]? = some x) : l.take (k + 1) = l.take k ++ [x] := by rw [List.take_add_one, h]; rfl
theorem joinN_snoc (l : List (List UInt8)) (x : List UInt8) : joinN (l ++ [x]) = joinN l ++ (x ++ [10]) := by simp [joinN]

/-! Rows of strings. -/
def sv (l : List (List UInt8)) : List Value := l.map strOf
def StrAt (w : World) (A : Option Addr) (n : Nat) (ls : List (List UInt8)) : Prop := ls.length = n ∧ ∀ (k : Nat) (s : List UInt8), ls[k]? = some s → ∃ ad, A = some ad ∧ w.cell? (ad.add k) = some (strOf s)
theorem StrAt.below {w w1 : World} {A : Option Addr} {n : Nat} {ls : List (List UInt8)} (h : StrAt w A n ls) (hw : Below w.heap.size w w1) : StrAt w1 A n ls :=
  ⟨h.1, fun k s hk => by obtain ⟨ad, h1, h2⟩ := h.2 k s hk; exact ⟨ad, h1, keepc hw h2⟩⟩
theorem OwnR.strs {w : World} {A : Option Addr} {B n c : Nat} {e : TypeId} {ls : List (List UInt8)} (h : OwnR w B e 1 A n c (sv ls)) : StrAt w A n ls := by
  have hl : ls.length = n := by have := h.len; simpa [sv] using this
  refine ⟨hl, fun k s hk => ?_⟩
  have hj := (List.getElem?_eq_some_iff.1 hk).1
  obtain ⟨g, hg, hc⟩ := h.cells (by omega)
  have := hc k (strOf s) (by simp [sv, hk])
  exact ⟨_, hg, by rw [Addr.add_mid, Nat.zero_add]; exact this⟩
section
variable {w : World} {A y : Option Addr} {n c m yc : Nat} {ls p : List (List UInt8)} {l : List UInt8} {o : Option (List UInt8)}
theorem app_str {B : Nat} {gb : Nat} {s : List UInt8} (ho : OwnR w B 9 1 y m yc (sv p)) (hB : B ≤ w.heap.size) (hg : litG 9 #[strOf s] gb w) (hm : m < 100000000) :
    MutRun Tryd.prog w (bl y) (fun z : Option Addr × Nat => .slice z.1 (m + 1) z.2) (fun z v => OwnR v B 9 1 z.1 (m + 1) z.2 (sv (p ++ [s]))) (appS 28 28 (.slice y m yc) (litV 1 gb)) := by
  have ha := appendR_m (P := Tryd.prog) (s := 1) (z := .string ⟨#[]⟩) (bytes := 16) (m := 1) (cc := 1) (t := 28) (elem := 9) (by kernel_rfl) (by kernel_rfl) rfl (by decide) ho hB (litG_reads (n := 1) hg rfl) (by intro v hv; simp at hv; rcases hv with rfl; rfl) (by omega) (by decide)
  have e : sv (p ++ [s]) = sv p ++ [strOf s] := by simp [sv]
  rw [e]; exact ha
theorem own_cap {B : Nat} {e : TypeId} {xs : List Value} (h : OwnR w B e 1 y n c xs) : n ≤ c ∧ (0 < n → ∃ g, y = some ⟨g, 0, none⟩ ∧ g < w.heap.size) := by
  rcases h.2 with ⟨h1, h2⟩ | ⟨g, cap, cur, h1, hB, hh, hn, rest⟩
  · cases h1; exact ⟨Nat.le_refl _, fun h => by omega⟩
  · cases h1; exact ⟨by first | exact hn | omega | exact rest.1, fun _ => ⟨g, rfl, (Array.getElem?_eq_some_iff.1 hh).1⟩⟩
theorem join_m {B : Nat} (h : OwnR w B 9 1 y n yc (sv p)) (hl : (joinBy 32 p).length ≤ 100000000) (hn : n ≤ 100000000) : Calls Tryd.prog 32 #[.slice y n yc, .string ⟨#[32]⟩] w (CallPost w (fun _ : Unit => strOf (joinBy 32 p)) fun _ _ => True) := by
  have hs := h.strs
  have hpn := hs.1
  obtain ⟨h1, h2⟩ := own_cap h
  by_cases h0 : n = 0
  · subst h0
    obtain rfl : p = [] := List.length_eq_zero_iff.1 hpn
    refine (Tryd.strings_Join_none y yc ⟨#[32]⟩ w).mono fun e w' he => ⟨(), he.1, by rw [he.2]; exact Below.refl _ _, fun _ _ _ => trivial⟩
  · obtain ⟨g, rfl, hg⟩ := h2 (by omega)
    have hmap : (p.map fun s => (⟨s.toArray⟩ : ByteArray)).map (fun b => b.data.toList) = p := by simp [Function.comp_def]
    have := Tryd.strings_Join g 0 yc (p.map fun s => ⟨s.toArray⟩) ⟨#[32]⟩ w (fun j x hj => by
      rw [List.getElem?_map] at hj
      obtain ⟨s, h3, rfl⟩ := Option.map_eq_some_iff.1 hj
      obtain ⟨ad, h4, h5⟩ := hs.2 j s h3
      injection h4 with h4
      rw [← h4, Addr.add_mid] at h5
      exact h5) hg (by simp; omega) (by simp; omega) (by rw [hmap]; show (Lib.join p [32]).length ≤ _; rw [lib_join]; omega)
    rw [hmap, List.length_map, hpn] at this
    refine this.mono fun e w' he => ⟨(), ?_, he.2, fun _ _ _ => trivial⟩
    rw [he.1]
    show Ending.returned (strOf (Lib.join p [32])) = _
    rw [lib_join]
theorem cut_m (c : UInt8) (hM : ML w) (hl : l.length ≤ 100000000) : Calls Tryd.prog 30 #[strOf l, .string ⟨#[c]⟩] w (CallPost w (fun _ : Unit => .tuple #[strOf (cutC c l).1, strOf (cutC c l).2.1, .bool (cutC c l).2.2]) fun _ _ => True) := by
  obtain ⟨m, hm⟩ := hM
  refine (Tryd.strings_Cut ⟨l.toArray⟩ ⟨#[c]⟩ m w (show l.length < _ by omega) hm).mono fun e w' h => ?_
  obtain ⟨he, n, hw⟩ := h
  refine ⟨(), ?_, by rw [hw]; exact below_drewN (Below.refl _ _) n, fun _ _ _ => trivial⟩
  have hc := lib_cutC c l
  rw [he]
  show Ending.returned (Value.tuple #[strOf (Lib.cut l [c]).1, strOf (Lib.cut l [c]).2.1, .bool (Lib.cut l [c]).2.2]) = _
  rw [hc]
theorem suf_m (hl : l.length ≤ 100000000) : Calls Tryd.prog 33 #[strOf l, .string ⟨#[10]⟩] w (CallPost w (fun _ : Unit => .tuple #[strOf (Lib.trimSuffix l [10]), .bool (Lib.hasSuffix l [10])]) fun _ _ => True) :=
  (Tryd.strings_CutSuffix ⟨l.toArray⟩ ⟨#[10]⟩ w (show l.length ≤ _ by omega)).mono fun e w' h => ⟨(), h.1, by rw [h.2]; exact Below.refl _ _, fun _ _ _ => trivial⟩
theorem split_m (c : UInt8) (hM : ML w) (hl : l.length ≤ 100000000) : Calls Tryd.prog 34 #[strOf l, .string ⟨#[c]⟩] w (CallPost w (fun y : Nat => .slice (some ⟨y, 0, none⟩) (splitBy c l).length (splitBy c l).length) fun y u => StrAt u (some ⟨y, 0, none⟩) (splitBy c l).length (splitBy c l)) := by
  obtain ⟨m, hm⟩ := hM
  refine (Tryd.strings_Split ⟨l.toArray⟩ ⟨#[c]⟩ m w (show l.length < _ by omega) hm (show 1 ≤ 1 from Nat.le_refl 1)).mono fun e w' h => ?_
  obtain ⟨he, hw⟩ := h
  have hdat := Lib.splitB_data ⟨#[c]⟩ 0 (Lib.countB ⟨l.toArray⟩ ⟨#[c]⟩) ⟨l.toArray⟩
  have hsp : Lib.splitK [c] 0 (Lib.count l [c]) l = splitBy c l := lib_split c _ l (Nat.le_refl _)
  have hdat' : (Lib.splitB ⟨#[c]⟩ 0 (Lib.countB ⟨l.toArray⟩ ⟨#[c]⟩) ⟨l.toArray⟩).map (·.data.toList) = splitBy c l := hdat.trans hsp
  have hlen : (splitBy c l).length = Lib.countB ⟨l.toArray⟩ ⟨#[c]⟩ + 1 := by
    rw [← hdat', List.length_map]
    exact Lib.splitB_all ⟨#[c]⟩ (show 1 ≤ 1 from Nat.le_refl 1) 0 _ _ rfl
  refine ⟨w.heap.size, by rw [he, hlen], by rw [hw]; exact below_new _ _, fun w'' h1 h2 => ⟨rfl, fun k s hk => ⟨_, rfl, ?_⟩⟩⟩
  rw [hw] at h1 h2
  obtain ⟨h3, _⟩ := alloc_at w _ h1 h2
  rw [← hdat', List.getElem?_map] at hk
  obtain ⟨b, hb, rfl⟩ := Option.map_eq_some_iff.1 hk
  rw [Addr.add_mid, Nat.zero_add]
  simp only [World.cell?, h3, Option.isSome_none, Bool.false_eq_true, if_false]
  simp [hb, strOf]
set_option maxRecDepth 100000 in
set_option maxHeartbeats 1000000 in
theorem joinFields_m (hs : StrAt w A n ls) (hn : ls.length ≤ 2000000) (ht : sumL ls ≤ 2000000) : Calls Tryd.prog 17 #[.slice A n c] w (CallPost w (fun _ : Unit => strOf (joinF ls)) fun _ _ => True) := by
  have hln := hs.1
  have hjl := joinF_len ls
  refine Good.enter Tryd.func17 rfl ?_
  refine Good.run (by kernel_rfl) (stop := 1000) 1000 _ ?_
  refine Good.loop (ι := {q : Nat × (Option Addr × Nat) // q.1 ≤ n}) 20 (fun q => ⟨[(0, .v (.slice A n c)), (3, .v (.slice q.1.2.1 q.1.1 q.1.2.2)), (6, .v (.slice A n c)), (7, .v (.int .i64 n)), (8, .v (.int .i64 q.1.1))], []⟩) (fun q u => OwnR u w.heap.size 9 1 q.1.2.1 q.1.1 q.1.2.2 (sv ((ls.take q.1.1).map quoL))) (fun q => n - q.1.1) (⟨(0, none, 0), Nat.zero_le _⟩) (by kernel_rfl) (fun _ => by kernel_rfl) ⟨by kernel_rfl, by kernel_rfl, by kernel_rfl⟩ (fun u h => OwnR.nil_) ?_
  rintro ⟨⟨m, y, yc⟩, hk⟩ gg
  have hk1 : m ≤ n := hk
  by_cases hlt : m < n
  ·
    refine Good.run (by kernel_rfl) (stop := 1000) 1000 _ ?_
    refine Good.condr (decide ((m : Int) < (n : Int))) true (by kernel_rfl) (by simp; omega) ?_
    refine Good.run (by kernel_rfl) (stop := 1000) 1000 _ ?_
    obtain ⟨s, hsk⟩ : ∃ s, ls[m]? = some s := ⟨_, List.getElem?_eq_getElem (by rw [hln]; exact hlt)⟩
    obtain ⟨ad, hA, hcell⟩ := hs.2 m s hsk
    have hsl := mem_sum (List.mem_of_getElem? hsk)
    obtain ⟨p, hp⟩ : ∃ p, p = (ls.take m).map quoL := ⟨_, rfl⟩
    have hp2 : (ls.take (m + 1)).map quoL = p ++ [quoL s] := by rw [take_snoc hsk, List.map_append, hp]; rfl
    refine Good.ask (idxS 28 (.slice A n c) m) (.pointer (some (ad.add m))) (by kernel_rfl) (fun w1 hw h => by rw [hA]; exact run_idxS (elem := 9) (by kernel_rfl) (by kernel_rfl) hlt) ?_
    refine Good.run (by kernel_rfl) (stop := 1000) 1000 _ ?_
    refine Good.ask (ldS 9 (ad.add m)) (strOf s) (by kernel_rfl) (fun w1 hw h => run_ldS (by kernel_rfl) (keepc hw hcell)) ?_
    refine Good.run (by kernel_rfl) (stop := 1000) 1000 _ ?_
    refine Good.callv (fun w1 hw h => quote_m (l := s) (by omega)) (by kernel_rfl) (fun u => ?_)
    refine Good.run (by kernel_rfl) (stop := 3) 1000 _ ?_
    refine Good.make (litS 28 1 #[(0, strOf (quoL s))]) (litV 1) (litG 9 #[strOf (quoL s)]) (by kernel_rfl) (fun w1 hw h => make_lit (by kernel_rfl)) (fun gb => ?_)
    refine Good.run (by kernel_rfl) (stop := 4) 1000 _ ?_
    refine Good.mutOp (L := bl y) (val := fun (z : Option Addr × Nat) => .slice z.1 (m + 1) z.2) (Φ' := fun (z : Option Addr × Nat) v => OwnR v w.heap.size 9 1 z.1 (m + 1) z.2 (sv (p ++ [quoL s]))) (G := fun (z : Option Addr × Nat) v => OwnR v w.heap.size 9 1 z.1 (m + 1) z.2 (sv (p ++ [quoL s]))) (appS 28 28 (.slice y m yc) (litV 1 gb)) (fun w1 hw h => by have ho : OwnR w1 w.heap.size 9 1 y m yc (sv p) := by { rw [hp]; exact h.1.1 }; exact app_str ho hw.size h.2 (show m < 100000000 from by omega)) (fun w1 h => fun b hb => ⟨((show OwnR w1 w.heap.size 9 1 y m yc (sv ((ls.take m).map quoL)) from h.1.1).lt b hb).1, ((show OwnR w1 w.heap.size 9 1 y m yc (sv ((ls.take m).map quoL)) from h.1.1).blk b hb).2⟩) (fun z wa w1 e1 e2 h hG => hG) (by kernel_rfl) (by kernel_rfl) (fun z => ?_)
    refine Good.run (by kernel_rfl) (stop := 1000) 1000 _ ?_
    refine Good.slot 8 (.int .i64 (IntKind.i64.wrap ((m : Int) + 1))) (.int .i64 ((m + 1 : Nat) : Int)) (by kernel_rfl) (by rw [wrap_succ hlt (by omega)]) ?_
    refine Good.next (⟨(m + 1, z), by show m + 1 ≤ n; omega⟩) (by kernel_rfl) (by show n - (m + 1) < n - m; omega) ⟨by kernel_rfl, by kernel_rfl, by kernel_rfl⟩ (fun _ h => by show OwnR _ _ _ _ _ _ _ (sv ((ls.take (m + 1)).map quoL)); rw [hp2]; exact h)
  ·
    refine Good.run (by kernel_rfl) (stop := 1000) 1000 _ ?_
    refine Good.condr (decide ((m : Int) < (n : Int))) false (by kernel_rfl) (by simp; omega) ?_
    refine Good.run (by kernel_rfl) (stop := 1000) 1000 _ ?_
    obtain rfl : m = n := by omega
    have hfull : ls.take m = ls := List.take_of_length_le (by omega)
    refine Good.leave (by kernel_rfl) ?_
    refine Good.run (by kernel_rfl) (stop := 1000) 1000 _ ?_
    refine Good.callv (fun w1 hw h => join_m (p := ls.map quoL) (by rw [← hfull]; exact h) (by show (joinF ls).length ≤ _; omega) (show m ≤ 100000000 from by omega)) (by kernel_rfl) (fun u => ?_)
    refine Good.run (by kernel_rfl) (stop := 1000) 1000 _ ?_
    refine Good.ret (v := strOf (joinBy 32 (ls.map quoL))) (by kernel_rfl) (fun w1 hw h => ⟨(), rfl, hw, fun _ _ _ => trivial⟩)
set_option maxRecDepth 100000 in
set_option maxHeartbeats 1000000 in
theorem rjoinFields_m (hs : StrAt w A n ls) (hn : ls.length ≤ 2000000) (ht : sumL ls ≤ 2000000) : Calls Tryd.prog 18 #[.slice A n c] w (CallPost w (fun _ : Unit => strOf (joinF ls)) fun _ _ => True) := by
  have hln := hs.1
  refine Good.enter Tryd.func18 rfl ?_
  refine Good.run (by kernel_rfl) (stop := 1000) 1000 _ ?_
  refine Good.loop (ι := {q : Nat // q ≤ n}) 23 (fun q => ⟨[(0, .v (.slice A n c)), (3, .v (strOf (joinF (ls.take q.1)))), (4, .v (.int .i64 q.1))], []⟩) (fun q u => True) (fun q => n - q.1) (⟨0, Nat.zero_le _⟩) (by kernel_rfl) (fun _ => by kernel_rfl) ⟨by kernel_rfl, by kernel_rfl, by kernel_rfl⟩ (fun u h => trivial) ?_
  rintro ⟨m, hk⟩ gg
  by_cases hlt : m < n
  ·
    refine Good.run (by kernel_rfl) (stop := 1000) 1000 _ ?_
    refine Good.condr (decide ((m : Int) < (n : Int))) true (by kernel_rfl) (by simp; omega) ?_
    refine Good.run (by kernel_rfl) (stop := 1000) 1000 _ ?_
    obtain ⟨s, hsk⟩ : ∃ s, ls[m]? = some s := ⟨_, List.getElem?_eq_getElem (by rw [hln]; exact hlt)⟩
    obtain ⟨ad, hA, hcell⟩ := hs.2 m s hsk
    have hsl := mem_sum (List.mem_of_getElem? hsk)
    have hjt := joinF_take ls m
    have hql := (quo_len s).2
    have hp2 : joinF (ls.take (m + 1)) = if m = 0 then quoL s else joinF (ls.take m) ++ 32 :: quoL s := by
      unfold joinF
      rw [take_snoc hsk, List.map_append, List.map_singleton, join_snoc]
      by_cases h0 : m = 0
      · subst h0; simp
      · rw [if_neg (by simp; exact ⟨h0, fun e => by rw [e] at hsk; cases hsk⟩), if_neg h0]
    by_cases h0 : m = 0
    · subst h0
      rw [if_pos rfl] at hp2
      refine Good.condr (decide (((0 : Nat) : Int) > 0)) false (by kernel_rfl) (by simp) ?_
      refine Good.run (by kernel_rfl) (stop := 1000) 1000 _ ?_
      refine Good.ask (idxS 28 (.slice A n c) (0 : Nat)) (.pointer (some (ad.add 0))) (by kernel_rfl) (fun w1 hw h => by rw [hA]; exact run_idxS (elem := 9) (by kernel_rfl) (by kernel_rfl) hlt) ?_
      refine Good.run (by kernel_rfl) (stop := 1000) 1000 _ ?_
      refine Good.ask (ldS 9 (ad.add 0)) (strOf s) (by kernel_rfl) (fun w1 hw h => run_ldS (by kernel_rfl) (keepc hw hcell)) ?_
      refine Good.run (by kernel_rfl) (stop := 1000) 1000 _ ?_
      refine Good.callv (fun w1 hw h => rquote_m (l := s) (by omega)) (by kernel_rfl) (fun u => ?_)
      refine Good.run (by kernel_rfl) (stop := 6) 1000 _ ?_
      refine Good.ask (opS .add 9 (.tmp 15) (.tmp 20) (strOf (joinF (ls.take 0))) (strOf (quoL s))) (strOf (joinF (ls.take (0 + 1)))) (by kernel_rfl) (fun w1 hw h => by rw [run_addP (by simp [joinF, joinBy]; omega), hp2]; simp [joinF, joinBy]) ?_
      refine Good.run (by kernel_rfl) (stop := 1000) 1000 _ ?_
      refine Good.slot 4 (.int .i64 (IntKind.i64.wrap (((0 : Nat) : Int) + 1))) (.int .i64 ((0 + 1 : Nat) : Int)) (by kernel_rfl) (by rw [wrap_succ hlt (by omega)]) ?_
      refine Good.next (⟨0 + 1, by show 0 + 1 ≤ n; omega⟩) (by kernel_rfl) (by show n - (0 + 1) < n - 0; omega) ⟨by kernel_rfl, by kernel_rfl, by kernel_rfl⟩ (fun _ h => trivial)
    · rw [if_neg h0] at hp2
      refine Good.condr (decide ((m : Int) > 0)) true (by kernel_rfl) (by simp; omega) ?_
      refine Good.run (by kernel_rfl) (stop := 1) 1000 _ ?_
      refine Good.ask (opS .add 9 (.tmp 13) (.const (.string ⟨#[32]⟩)) (strOf (joinF (ls.take m))) (strOf [32])) (strOf (joinF (ls.take m) ++ [32])) (by kernel_rfl) (fun w1 hw h => run_addP (by simp; omega)) ?_
      refine Good.run (by kernel_rfl) (stop := 1000) 1000 _ ?_
      refine Good.ask (idxS 28 (.slice A n c) m) (.pointer (some (ad.add m))) (by kernel_rfl) (fun w1 hw h => by rw [hA]; exact run_idxS (elem := 9) (by kernel_rfl) (by kernel_rfl) hlt) ?_
      refine Good.run (by kernel_rfl) (stop := 1000) 1000 _ ?_
      refine Good.ask (ldS 9 (ad.add m)) (strOf s) (by kernel_rfl) (fun w1 hw h => run_ldS (by kernel_rfl) (keepc hw hcell)) ?_
      refine Good.run (by kernel_rfl) (stop := 1000) 1000 _ ?_
      refine Good.callv (fun w1 hw h => rquote_m (l := s) (by omega)) (by kernel_rfl) (fun u => ?_)
      refine Good.run (by kernel_rfl) (stop := 6) 1000 _ ?_
      refine Good.ask (opS .add 9 (.tmp 15) (.tmp 20) (strOf (joinF (ls.take m) ++ [32])) (strOf (quoL s))) (strOf (joinF (ls.take (m + 1)))) (by kernel_rfl) (fun w1 hw h => by rw [run_addP (by simp; omega), hp2]; simp) ?_
      refine Good.run (by kernel_rfl) (stop := 1000) 1000 _ ?_
      refine Good.slot 4 (.int .i64 (IntKind.i64.wrap ((m : Int) + 1))) (.int .i64 ((m + 1 : Nat) : Int)) (by kernel_rfl) (by rw [wrap_succ hlt (by omega)]) ?_
      refine Good.next (⟨m + 1, by show m + 1 ≤ n; omega⟩) (by kernel_rfl) (by show n - (m + 1) < n - m; omega) ⟨by kernel_rfl, by kernel_rfl, by kernel_rfl⟩ (fun _ h => trivial)
  ·
    refine Good.run (by kernel_rfl) (stop := 1000) 1000 _ ?_
    refine Good.condr (decide ((m : Int) < (n : Int))) false (by kernel_rfl) (by simp; omega) ?_
    refine Good.run (by kernel_rfl) (stop := 1000) 1000 _ ?_
    have hfull : ls.take m = ls := List.take_of_length_le (by omega)
    refine Good.leave (by kernel_rfl) ?_
    refine Good.run (by kernel_rfl) (stop := 1000) 1000 _ ?_
    refine Good.ret (v := strOf (joinF (ls.take m))) (by kernel_rfl) (fun w1 hw h => ⟨(), by rw [hfull], hw, fun _ _ _ => trivial⟩)
set_option maxRecDepth 100000 in
set_option maxHeartbeats 1000000 in
theorem joinLines_m (hs : StrAt w A n ls) (hn : ls.length ≤ 2000000) (ht : sumL ls ≤ 2000000) : Calls Tryd.prog 22 #[.slice A n c] w (CallPost w (fun _ : Unit => strOf (joinN ls)) fun _ _ => True) := by
  have hln := hs.1
  refine Good.enter Tryd.func22 rfl ?_
  refine Good.run (by kernel_rfl) (stop := 0) 1000 _ ?_
  refine Good.run (by kernel_rfl) (stop := 1000) 1 _ ?_
  refine Good.run (by kernel_rfl) (stop := 0) 1000 _ ?_
  refine Good.make (allS 44) (ptr) (fun g u => BAt w g [] u) (by kernel_rfl) (fun w1 hw h => make_bld hw.size) (fun g => ?_)
  refine Good.run (by kernel_rfl) (stop := 1000) 1000 _ ?_
  refine Good.loop (ι := {q : Nat // q ≤ n}) 17 (fun q => ⟨[(0, .v (.slice A n c)), (3, .v (ptr g)), (6, .v (.slice A n c)), (7, .v (.int .i64 n)), (8, .v (.int .i64 q.1))], []⟩) (fun q u => BAt w g (joinN (ls.take q.1)) u) (fun q => n - q.1) (⟨0, Nat.zero_le _⟩) (by kernel_rfl) (fun _ => by kernel_rfl) ⟨by kernel_rfl, by kernel_rfl, by kernel_rfl⟩ (fun u h => h.2) ?_
  rintro ⟨m, hk⟩ gg
  by_cases hlt : m < n
  ·
    refine Good.run (by kernel_rfl) (stop := 1000) 1000 _ ?_
    refine Good.condr (decide ((m : Int) < (n : Int))) true (by kernel_rfl) (by simp; omega) ?_
    refine Good.run (by kernel_rfl) (stop := 1000) 1000 _ ?_
    obtain ⟨s, hsk⟩ : ∃ s, ls[m]? = some s := ⟨_, List.getElem?_eq_getElem (by rw [hln]; exact hlt)⟩
    obtain ⟨ad, hA, hcell⟩ := hs.2 m s hsk
    have hsl := mem_sum (List.mem_of_getElem? hsk)
    have hjt := joinN_take ls m
    refine Good.ask (idxS 28 (.slice A n c) m) (.pointer (some (ad.add m))) (by kernel_rfl) (fun w1 hw h => by rw [hA]; exact run_idxS (elem := 9) (by kernel_rfl) (by kernel_rfl) hlt) ?_
    refine Good.run (by kernel_rfl) (stop := 1000) 1000 _ ?_
    refine Good.ask (ldS 9 (ad.add m)) (strOf s) (by kernel_rfl) (fun w1 hw h => run_ldS (by kernel_rfl) (keepc hw hcell)) ?_
    refine Good.run (by kernel_rfl) (stop := 0) 1000 _ ?_
    refine Good.run (by kernel_rfl) (stop := 1000) 1 _ ?_
    refine Good.run (by kernel_rfl) (stop := 1) 1000 _ ?_
    refine Good.ask (opS .add 9 (.tmp 12) (.const (.string ⟨#[10]⟩)) (strOf s) (strOf [10])) (strOf (s ++ [10])) (by kernel_rfl) (fun w1 hw h => run_addP (by simp; omega)) ?_
    refine Good.run (by kernel_rfl) (stop := 1000) 1000 _ ?_
    refine Good.callB (val := fun _ => .tuple #[.int .i64 (s ++ [10]).length, .nilIface]) (Φ' := fun (_ : Unit) u => BAt w g (joinN (ls.take m) ++ (s ++ [10])) u) (fun w1 hw h => wstr_m (l := s ++ [10]) hw h (by show (joinN (ls.take m)).length + _ ≤ _; simp only [List.length_append, List.length_singleton]; omega)) (by kernel_rfl) (by kernel_rfl) (by kernel_rfl) (fun _ => ?_)
    refine Good.run (by kernel_rfl) (stop := 1000) 1000 _ ?_
    refine Good.slot 8 (.int .i64 (IntKind.i64.wrap ((m : Int) + 1))) (.int .i64 ((m + 1 : Nat) : Int)) (by kernel_rfl) (by rw [wrap_succ hlt (by omega)]) ?_
    refine Good.next (⟨m + 1, by show m + 1 ≤ n; omega⟩) (by kernel_rfl) (by show n - (m + 1) < n - m; omega) ⟨by kernel_rfl, by kernel_rfl, by kernel_rfl⟩ (fun _ h => by show BAt w g (joinN (ls.take (m + 1))) _; rw [take_snoc hsk, joinN_snoc]; exact h)
  ·
    refine Good.run (by kernel_rfl) (stop := 1000) 1000 _ ?_
    refine Good.condr (decide ((m : Int) < (n : Int))) false (by kernel_rfl) (by simp; omega) ?_
    refine Good.run (by kernel_rfl) (stop := 1000) 1000 _ ?_
    have hfull : ls.take m = ls := List.take_of_length_le (by omega)
    refine Good.leave (by kernel_rfl) ?_
    refine Good.run (by kernel_rfl) (stop := 1000) 1000 _ ?_
    refine Good.callB (val := fun _ => strOf (joinN ls)) (Φ' := fun (_ : Unit) u => True) (fun w1 hw h => bstr_m hw (by rw [← hfull]; exact h)) (by kernel_rfl) (by kernel_rfl) (by kernel_rfl) (fun _ => ?_)
    refine Good.run (by kernel_rfl) (stop := 1000) 1000 _ ?_
    refine Good.ret (v := strOf (joinN ls)) (by kernel_rfl) (fun w1 hw h => ⟨(), rfl, hw, fun _ _ _ => trivial⟩)
set_option maxRecDepth 100000 in
set_option maxHeartbeats 1000000 in
theorem rjoinLines_m (hs : StrAt w A n ls) (hn : ls.length ≤ 2000000) (ht : sumL ls ≤ 2000000) : Calls Tryd.prog 23 #[.slice A n c] w (CallPost w (fun _ : Unit => strOf (joinN ls)) fun _ _ => True) := by
  have hln := hs.1
  refine Good.enter Tryd.func23 rfl ?_
  refine Good.run (by kernel_rfl) (stop := 1000) 1000 _ ?_
  refine Good.loop (ι := {q : Nat // q ≤ n}) 19 (fun q => ⟨[(0, .v (.slice A n c)), (3, .v (strOf (joinN (ls.take q.1)))), (4, .v (.int .i64 q.1))], []⟩) (fun q u => True) (fun q => n - q.1) (⟨0, Nat.zero_le _⟩) (by kernel_rfl) (fun _ => by kernel_rfl) ⟨by kernel_rfl, by kernel_rfl, by kernel_rfl⟩ (fun u h => trivial) ?_
  rintro ⟨m, hk⟩ gg
  by_cases hlt : m < n
  ·
    refine Good.run (by kernel_rfl) (stop := 1000) 1000 _ ?_
    refine Good.condr (decide ((m : Int) < (n : Int))) true (by kernel_rfl) (by simp; omega) ?_
    refine Good.run (by kernel_rfl) (stop := 1000) 1000 _ ?_
    obtain ⟨s, hsk⟩ : ∃ s, ls[m]? = some s := ⟨_, List.getElem?_eq_getElem (by rw [hln]; exact hlt)⟩
    obtain ⟨ad, hA, hcell⟩ := hs.2 m s hsk
    have hsl := mem_sum (List.mem_of_getElem? hsk)
    have hjt := joinN_take ls m
    refine Good.ask (idxS 28 (.slice A n c) m) (.pointer (some (ad.add m))) (by kernel_rfl) (fun w1 hw h => by rw [hA]; exact run_idxS (elem := 9) (by kernel_rfl) (by kernel_rfl) hlt) ?_
    refine Good.run (by kernel_rfl) (stop := 1000) 1000 _ ?_
    refine Good.ask (ldS 9 (ad.add m)) (strOf s) (by kernel_rfl) (fun w1 hw h => run_ldS (by kernel_rfl) (keepc hw hcell)) ?_
    refine Good.run (by kernel_rfl) (stop := 5) 1000 _ ?_
    refine Good.ask (opS .add 9 (.tmp 15) (.const (.string ⟨#[10]⟩)) (strOf s) (strOf [10])) (strOf (s ++ [10])) (by kernel_rfl) (fun w1 hw h => run_addP (by simp; omega)) ?_
    refine Good.run (by kernel_rfl) (stop := 6) 1000 _ ?_
    refine Good.ask (opS .add 9 (.tmp 11) (.tmp 16) (strOf (joinN (ls.take m))) (strOf (s ++ [10]))) (strOf (joinN (ls.take (m + 1)))) (by kernel_rfl) (fun w1 hw h => by rw [run_addP (by simp; omega), take_snoc hsk, joinN_snoc]) ?_
    refine Good.run (by kernel_rfl) (stop := 1000) 1000 _ ?_
    refine Good.slot 4 (.int .i64 (IntKind.i64.wrap ((m : Int) + 1))) (.int .i64 ((m + 1 : Nat) : Int)) (by kernel_rfl) (by rw [wrap_succ hlt (by omega)]) ?_
    refine Good.next (⟨m + 1, by show m + 1 ≤ n; omega⟩) (by kernel_rfl) (by show n - (m + 1) < n - m; omega) ⟨by kernel_rfl, by kernel_rfl, by kernel_rfl⟩ (fun _ h => trivial)
  ·
    refine Good.run (by kernel_rfl) (stop := 1000) 1000 _ ?_
    refine Good.condr (decide ((m : Int) < (n : Int))) false (by kernel_rfl) (by simp; omega) ?_
    refine Good.run (by kernel_rfl) (stop := 1000) 1000 _ ?_
    have hfull : ls.take m = ls := List.take_of_length_le (by omega)
    refine Good.leave (by kernel_rfl) ?_
    refine Good.run (by kernel_rfl) (stop := 1000) 1000 _ ?_
    refine Good.ret (v := strOf (joinN (ls.take m))) (by kernel_rfl) (fun w1 hw h => ⟨(), by rw [hfull], hw, fun _ _ _ => trivial⟩)
end

end Go.Proofs.YtgkiopplcpnajaaDoor
