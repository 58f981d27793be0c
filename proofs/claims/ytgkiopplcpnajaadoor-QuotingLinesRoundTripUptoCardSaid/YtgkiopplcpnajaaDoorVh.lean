/-
  Quoting: what is few, the examples, the laws on words and on the alphabet.
-/
import Derived.Test.YtgkiopplcpnajaaDoorVg
namespace Go.Proofs.YtgkiopplcpnajaaDoor
set_option linter.unusedVariables false
set_option linter.unusedSimpArgs false
open Go.RowKit

def minS (t : TypeId) (x y : Int) : Sem Next := Builtin.min_ #[t, t] t #[.int .i64 x, .int .i64 y] >>= fun v => pure (.value v)
section
variable {w : World} {l m : List UInt8} {A : Option Addr} {n c : Nat} {ls ps : List (List UInt8)}
theorem run_minS {P : Program} {t : TypeId} {x y : Nat} : (minS t x y).run P w = .ok (.value (.int .i64 (min x y : Nat))) w := by
  simp only [minS, Sem.run_bind, run_min_int2, Result.andThen_ok, Sem.run_pure]
  congr 3
  split <;> omega
theorem take_end {k : Nat} (h : n ≤ k) (hl : ls.length = n) : ls.take k = ls := List.take_of_length_le (by omega)
set_option maxRecDepth 100000 in
set_option maxHeartbeats 1000000 in
theorem few_m {B : Bool} (hB : fewB ls = B) (hs : StrAt w A n ls) : Calls Tryd.prog 14 #[.slice A n c] w (CallPost w (fun _ : Unit => .bool B) fun _ _ => True) := by
  have hln := hs.1
  refine Good.enter Tryd.func14 rfl ?_
  refine Good.run (by kernel_rfl) (stop := 1000) 1000 _ ?_
  refine Good.loop (ι := {k : Nat // k ≤ n ∧ k ≤ 1000}) 30 (fun q => ⟨[(0, .v (.slice A n c)), (3, .v (.int .i64 (minL (ls.take q.1) : Nat))), (4, .v (.int .i64 q.1))], []⟩) (fun _ _ => True) (fun q => n - q.1) (⟨0, Nat.zero_le _, Nat.zero_le _⟩) (by kernel_rfl) (fun _ => by kernel_rfl) ⟨by kernel_rfl, by kernel_rfl, by kernel_rfl⟩ (fun _ _ => trivial) ?_
  rintro ⟨k, hk, hk2⟩ g
  have hmin : minL (ls.take k) ≤ 5000 * 1000 := by
    have h1 := minL_bound (ls.take k)
    have h2 : (ls.take k).length ≤ 1000 := by rw [List.length_take]; omega
    omega
  by_cases hlt : k < n ∧ k < 1000
  · obtain ⟨s, hsk⟩ : ∃ s, ls[k]? = some s := ⟨_, List.getElem?_eq_getElem (by omega)⟩
    obtain ⟨ad, hA, hcell⟩ := hs.2 k s hsk
    refine Good.run (by kernel_rfl) (stop := 4) 1000 _ ?_
    refine Good.slot 8 (.bool (decide ((k : Int) < (n : Int)))) (.bool true) (by kernel_rfl) (by rw [decide_eq_true (by omega)]) ?_
    refine Good.run (by kernel_rfl) (stop := 1000) 1000 _ ?_
    refine Good.condr (decide ((k : Int) < 1000)) true (by kernel_rfl) (by simp; omega) ?_
    refine Good.run (by kernel_rfl) (stop := 1000) 1000 _ ?_
    refine Good.ask (idxS 28 (.slice A n c) k) (.pointer (some (ad.add k))) (by kernel_rfl) (fun w1 hw h => by rw [hA]; exact run_idxS (elem := 9) (by kernel_rfl) (by kernel_rfl) hlt.1) ?_
    refine Good.run (by kernel_rfl) (stop := 1000) 1000 _ ?_
    refine Good.ask (ldS 9 (ad.add k)) (strOf s) (by kernel_rfl) (fun w1 hw h => run_ldS (by kernel_rfl) (keepc hw hcell)) ?_
    refine Good.run (by kernel_rfl) (stop := 6) 1000 _ ?_
    refine Good.ask (minS 3 s.length 5000) (.int .i64 (min s.length 5000 : Nat)) (by kernel_rfl) (fun w1 hw h => run_minS) ?_
    refine Good.run (by kernel_rfl) (stop := 1000) 1000 _ ?_
    refine Good.slot 3 (.int .i64 (IntKind.i64.wrap (((minL (ls.take k) : Nat) : Int) + ((min s.length 5000 : Nat) : Int)))) (.int .i64 (minL (ls.take (k + 1)) : Nat)) (by kernel_rfl) (by rw [IntWalk.i64_in _ (by omega), take_snoc hsk, minL_snoc]; congr 1) ?_
    refine Good.slot 4 (.int .i64 (IntKind.i64.wrap ((k : Int) + 1))) (.int .i64 ((k + 1 : Nat) : Int)) (by kernel_rfl) (by rw [wrap_succ hlt.2 (by omega)]) ?_
    refine Good.next (⟨k + 1, by omega, by omega⟩) (by kernel_rfl) (by show n - (k + 1) < n - k; omega) ⟨by kernel_rfl, by kernel_rfl, by kernel_rfl⟩ (fun _ _ => trivial)
  · have ht : ls.take 1000 = ls.take k := by
      by_cases h1 : k < n
      · obtain rfl : k = 1000 := by omega
        rfl
      · rw [take_end (n := n) (by omega) hln, take_end (n := n) (by omega) hln]
    by_cases h1 : k < n
    ·
      refine Good.run (by kernel_rfl) (stop := 4) 1000 _ ?_
      refine Good.slot 8 (.bool (decide ((k : Int) < (n : Int)))) (.bool true) (by kernel_rfl) (by rw [decide_eq_true (by omega)]) ?_
      refine Good.run (by kernel_rfl) (stop := 1000) 1000 _ ?_
      refine Good.condr (decide ((k : Int) < 1000)) false (by kernel_rfl) (by simp; omega) ?_
      refine Good.run (by kernel_rfl) (stop := 1000) 1000 _ ?_
      refine Good.leave (by kernel_rfl) ?_
      refine Good.run (by kernel_rfl) (stop := 3) 1000 _ ?_
      by_cases h3 : n ≤ 300
      · omega
      · obtain rfl : B = false := by rw [← hB]; unfold fewB; rw [decide_eq_false (by omega)]; rfl
        refine Good.slot 25 (.bool (decide ((n : Int) ≤ 300))) (.bool false) (by kernel_rfl) (by rw [decide_eq_false (by omega)]) ?_
        refine Good.run (by kernel_rfl) (stop := 1000) 1000 _ ?_
        refine Good.ret (v := .bool false) (by kernel_rfl) (fun w1 hw h => ⟨(), rfl, hw, fun _ _ _ => trivial⟩)
    ·
      refine Good.run (by kernel_rfl) (stop := 4) 1000 _ ?_
      refine Good.slot 8 (.bool (decide ((k : Int) < (n : Int)))) (.bool false) (by kernel_rfl) (by rw [decide_eq_false (by omega)]) ?_
      refine Good.run (by kernel_rfl) (stop := 1000) 1000 _ ?_
      refine Good.cond false (by kernel_rfl) ?_
      refine Good.run (by kernel_rfl) (stop := 1000) 1000 _ ?_
      refine Good.leave (by kernel_rfl) ?_
      refine Good.run (by kernel_rfl) (stop := 3) 1000 _ ?_
      by_cases h3 : n ≤ 300
      · have hB2 : B = decide (((minL (ls.take k) : Nat) : Int) ≤ 5000) := by
          rw [← hB]; unfold fewB; rw [decide_eq_true (by omega), Bool.true_and, ht]
          exact decide_eq_decide.2 (by omega)
        refine Good.slot 25 (.bool (decide ((n : Int) ≤ 300))) (.bool true) (by kernel_rfl) (by rw [decide_eq_true (by omega)]) ?_
        refine Good.run (by kernel_rfl) (stop := 1000) 1000 _ ?_
        refine Good.ret (v := .bool (decide (((minL (ls.take k) : Nat) : Int) ≤ 5000))) (by kernel_rfl) (fun w1 hw h => ⟨(), by rw [hB2], hw, fun _ _ _ => trivial⟩)
      · obtain rfl : B = false := by rw [← hB]; unfold fewB; rw [decide_eq_false (by omega)]; rfl
        refine Good.slot 25 (.bool (decide ((n : Int) ≤ 300))) (.bool false) (by kernel_rfl) (by rw [decide_eq_false (by omega)]) ?_
        refine Good.run (by kernel_rfl) (stop := 1000) 1000 _ ?_
        refine Good.ret (v := .bool false) (by kernel_rfl) (fun w1 hw h => ⟨(), rfl, hw, fun _ _ _ => trivial⟩)
/-! The examples. -/
theorem sfx (hM : ML w) (h : wordsF l = ps.map quoL) (hl : l.length ≤ 10000000) : Calls Tryd.prog 15 #[strOf l] w (CallPost w (fun y : Option Addr × Nat => .tuple #[.slice y.1 ps.length y.2, .int .i64 0, .int .i64 0]) fun y u => StrAt u y.1 ps.length ps) := by
  obtain ⟨h1, h2⟩ := unqAll_quo ps
  exact splitFields_m (B := true) hM (by rw [h, h2]) (by rw [h, h1]) hl
theorem sfn {k : Nat} (hM : ML w) (h : allW (wordsF l) = false) (h2 : (unqAll (wordsF l)).length = k) (hl : l.length ≤ 10000000) : Calls Tryd.prog 15 #[strOf l] w (CallPost w (fun _ : Option Addr × Nat => .tuple #[.slice none 0 0, .int .i64 k, .int .i64 3]) fun _ _ => True) := by
  have := sf_n (w := w) hM h hl
  rw [h2] at this; exact this
theorem slx (hM : ML w) (h1 : okN l = true) (h : linesN l = ps) (hl : l.length ≤ 10000000) : Calls Tryd.prog 20 #[strOf l] w (CallPost w (fun y : Option Addr × Nat => .tuple #[.slice y.1 ps.length y.2, .int .i64 0]) fun y u => StrAt u y.1 ps.length ps) := by
  subst h; exact sl_s hM h1 hl
theorem lit_strs {g : Nat} {cells : Array Value} (h : litG 9 cells g w) (he : cells.toList = sv ps) (hn : cells.size = ps.length * 1) (hm : ps.length ≤ maxLen) : StrAt w (some ⟨g, 0, none⟩) ps.length ps := by
  have := OwnR.lit (B := 0) h hn (Nat.zero_le _) hm
  rw [he] at this
  exact this.strs
theorem ex_bad : unqL [] = none := by unfold unqL; rw [if_neg (by decide), unqS]; rfl
theorem ex_a : unqL [97] = some [97] := unq_quo [97]
theorem ex_hex : unqL [42, 52, 49] = none := by
  unfold unqL
  rw [if_neg (by decide), unqS_mark, if_pos (by right; right; decide +kernel)]
theorem ex_two : wordsF [97, 32, 32, 98] = [[97], [], [98]] := by decide +kernel
theorem ex_two1 : allW (wordsF [97, 32, 32, 98]) = false := by rw [ex_two]; simp [allW, ex_bad]
theorem ex_two2 : (unqAll (wordsF [97, 32, 32, 98])).length = 1 := by rw [ex_two, unqAll_some ex_a, unqAll_none ex_bad]; rfl
set_option maxRecDepth 100000 in
set_option maxHeartbeats 4000000 in
theorem example5_m (hM : ML w) : Calls Tryd.prog 9 #[] w (CallPost w (fun _ : Unit => .bool true) fun _ _ => True) := by
  refine Good.enter Tryd.func9 rfl ?_
  refine Good.run (by kernel_rfl) (stop := 1000) 1000 _ ?_
  refine Good.callv (fun w1 hw h => sfx (l := [97, 42, 50, 48, 98, 32, 42]) (ps := [[97, 32, 98], []]) (hM.below hw) (by decide +kernel) (by decide)) (by kernel_rfl) (fun a => ?_)
  refine Good.run (by kernel_rfl) (stop := 1000) 1000 _ ?_
  refine Good.callv (fun w1 hw h => sfn (l := [97, 32, 32, 98]) (hM.below hw) ex_two1 ex_two2 (by decide)) (by kernel_rfl) (fun u => ?_)
  refine Good.run (by kernel_rfl) (stop := 1000) 1000 _ ?_
  refine Good.callv (fun w1 hw h => slx (l := [97, 10, 10]) (ps := [[97], []]) (hM.below hw) (by decide +kernel) (by decide +kernel) (by decide)) (by kernel_rfl) (fun b => ?_)
  refine Good.run (by kernel_rfl) (stop := 1000) 1000 _ ?_
  refine Good.callv (fun w1 hw h => sl_n (l := [97]) (by decide +kernel) (by decide)) (by kernel_rfl) (fun u => ?_)
  refine Good.run (by kernel_rfl) (stop := 1000) 1000 _ ?_
  refine Good.callv (fun w1 hw h => unq_n (l := [42, 52, 49]) ex_hex (by decide)) (by kernel_rfl) (fun u => ?_)
  refine Good.run (by kernel_rfl) (stop := 0) 1000 _ ?_
  refine Good.make (litS 28 2 #[(0, strOf [97, 32, 98]), (1, strOf [])]) (litV 2) (litG 9 #[strOf [97, 32, 98], strOf []]) (by kernel_rfl) (fun w1 hw h => make_lit (by kernel_rfl)) (fun g => ?_)
  refine Good.run (by kernel_rfl) (stop := 3) 1000 _ ?_
  refine Good.callv (fun w1 hw h => joinFields_m (c := 2) (lit_strs (ps := [[97, 32, 98], []]) h.2 rfl rfl (by decide)) (by decide) (by decide)) (by kernel_rfl) (fun u => ?_)
  refine Good.run (by kernel_rfl) (stop := 2) 1000 _ ?_
  refine Good.ask (opS .eql 9 (.tmp 36) (.const (.string ⟨#[97, 42, 50, 48, 98, 32, 42]⟩)) (strOf (joinF [[97, 32, 98], []])) (strOf [97, 42, 50, 48, 98, 32, 42])) (.bool true) (by kernel_rfl) (fun w1 hw h => run_eqS (by decide +kernel)) ?_
  refine Good.run (by kernel_rfl) (stop := 5) 1000 _ ?_
  refine Good.make (litS 28 2 #[(0, strOf [97, 32, 98]), (1, strOf [])]) (litV 2) (litG 9 #[strOf [97, 32, 98], strOf []]) (by kernel_rfl) (fun w1 hw h => make_lit (by kernel_rfl)) (fun g2 => ?_)
  refine Good.run (by kernel_rfl) (stop := 26) 1000 _ ?_
  refine Good.callv (fun w1 hw h => same_m (c := a.2) (c2 := 2) (B := true) (xs := [[97, 32, 98], []]) (bs := [[97, 32, 98], []]) (by decide +kernel) h.1.1.1.1.1.1.1.2 (lit_strs (ps := [[97, 32, 98], []]) h.2 rfl rfl (by decide)) (by decide)) (by kernel_rfl) (fun u => ?_)
  refine Good.run (by kernel_rfl) (stop := 26) 1000 _ ?_
  refine Good.make (litS 28 2 #[(0, strOf [97]), (1, strOf [])]) (litV 2) (litG 9 #[strOf [97], strOf []]) (by kernel_rfl) (fun w1 hw h => make_lit (by kernel_rfl)) (fun g3 => ?_)
  refine Good.run (by kernel_rfl) (stop := 40) 1000 _ ?_
  refine Good.callv (fun w1 hw h => same_m (c := b.2) (c2 := 2) (B := true) (xs := [[97], []]) (bs := [[97], []]) (by decide +kernel) h.1.1.1.1.1.1.1.2 (lit_strs (ps := [[97], []]) h.2 rfl rfl (by decide)) (by decide)) (by kernel_rfl) (fun u => ?_)
  refine Good.run (by kernel_rfl) (stop := 1000) 1000 _ ?_
  refine Good.ret (v := .bool true) (by kernel_rfl) (fun w1 hw h => ⟨(), rfl, hw, fun _ _ _ => trivial⟩)
set_option maxRecDepth 100000 in
set_option maxHeartbeats 1000000 in
theorem lawWords (hM : ML w) : Calls Tryd.prog 3 #[strOf l, strOf m] w (CallPost w (fun _ : Unit => .bool true) fun _ _ => True) := by
  by_cases hl : l.length ≤ 2000
  case neg =>
    refine Good.enter Tryd.func3 rfl ?_
    refine Good.run (by kernel_rfl) (stop := 3) 1000 _ ?_
    refine Good.slot 11 (.bool (decide ((l.length : Int) > 2000))) (.bool true) (by kernel_rfl) (by rw [decide_eq_true (by omega)]) ?_
    refine Good.run (by kernel_rfl) (stop := 1000) 1000 _ ?_
    refine Good.cond true (by kernel_rfl) ?_
    refine Good.run (by kernel_rfl) (stop := 1000) 1000 _ ?_
    refine Good.callv (fun w1 hw h => example5_m (hM.below hw)) (by kernel_rfl) (fun u => ?_)
    refine Good.run (by kernel_rfl) (stop := 1000) 1000 _ ?_
    refine Good.ret (v := .bool true) (by kernel_rfl) (fun w1 hw h => ⟨(), rfl, hw, fun _ _ _ => trivial⟩)
  by_cases hm : m.length ≤ 2000
  case neg =>
    refine Good.enter Tryd.func3 rfl ?_
    refine Good.run (by kernel_rfl) (stop := 3) 1000 _ ?_
    refine Good.slot 11 (.bool (decide ((l.length : Int) > 2000))) (.bool false) (by kernel_rfl) (by rw [decide_eq_false (by omega)]) ?_
    refine Good.run (by kernel_rfl) (stop := 1000) 1000 _ ?_
    refine Good.condr (decide ((m.length : Int) > 2000)) true (by kernel_rfl) (by simp; omega) ?_
    refine Good.run (by kernel_rfl) (stop := 1000) 1000 _ ?_
    refine Good.callv (fun w1 hw h => example5_m (hM.below hw)) (by kernel_rfl) (fun u => ?_)
    refine Good.run (by kernel_rfl) (stop := 1000) 1000 _ ?_
    refine Good.ret (v := .bool true) (by kernel_rfl) (fun w1 hw h => ⟨(), rfl, hw, fun _ _ _ => trivial⟩)
  refine Good.enter Tryd.func3 rfl ?_
  refine Good.run (by kernel_rfl) (stop := 3) 1000 _ ?_
  refine Good.slot 11 (.bool (decide ((l.length : Int) > 2000))) (.bool false) (by kernel_rfl) (by rw [decide_eq_false (by omega)]) ?_
  refine Good.run (by kernel_rfl) (stop := 1000) 1000 _ ?_
  refine Good.condr (decide ((m.length : Int) > 2000)) false (by kernel_rfl) (by simp; omega) ?_
  refine Good.run (by kernel_rfl) (stop := 1000) 1000 _ ?_
  cases hu : unqL m with
  | none =>
    refine Good.callv (fun w1 hw h => unq_n hu (by omega)) (by kernel_rfl) (fun u => ?_)
    refine Good.run (by kernel_rfl) (stop := 1000) 1000 _ ?_
    refine Good.callv (fun w1 hw h => runq_n hu (by omega)) (by kernel_rfl) (fun u => ?_)
    refine Good.run (by kernel_rfl) (stop := 1000) 1000 _ ?_
    refine Good.callv (fun w1 hw h => quote_m (l := l) (by omega)) (by kernel_rfl) (fun u => ?_)
    refine Good.run (by kernel_rfl) (stop := 1000) 1000 _ ?_
    refine Good.callv (fun w1 hw h => rquote_m (l := l) (by omega)) (by kernel_rfl) (fun u => ?_)
    refine Good.run (by kernel_rfl) (stop := 4) 1000 _ ?_
    refine Good.ask (opS .eql 9 (.tmp 29) (.tmp 31) (strOf (quoL l)) (strOf (quoL l))) (.bool true) (by kernel_rfl) (fun w1 hw h => run_eqS (by simp)) ?_
    refine Good.run (by kernel_rfl) (stop := 8) 1000 _ ?_
    refine Good.ask (opS .eql 9 (.tmp 34) (.tmp 35) (strOf []) (strOf [])) (.bool true) (by kernel_rfl) (fun w1 hw h => run_eqS (by simp)) ?_
    refine Good.run (by kernel_rfl) (stop := 1000) 1000 _ ?_
    refine Good.callv (fun w1 hw h => example5_m (hM.below hw)) (by kernel_rfl) (fun u => ?_)
    refine Good.run (by kernel_rfl) (stop := 1000) 1000 _ ?_
    refine Good.ret (v := .bool true) (by kernel_rfl) (fun w1 hw h => ⟨(), rfl, hw, fun _ _ _ => trivial⟩)
  | some p =>
    refine Good.callv (fun w1 hw h => unq_s hu (by omega)) (by kernel_rfl) (fun u => ?_)
    refine Good.run (by kernel_rfl) (stop := 1000) 1000 _ ?_
    refine Good.callv (fun w1 hw h => runq_s hu (by omega)) (by kernel_rfl) (fun u => ?_)
    refine Good.run (by kernel_rfl) (stop := 1000) 1000 _ ?_
    refine Good.callv (fun w1 hw h => quote_m (l := l) (by omega)) (by kernel_rfl) (fun u => ?_)
    refine Good.run (by kernel_rfl) (stop := 1000) 1000 _ ?_
    refine Good.callv (fun w1 hw h => rquote_m (l := l) (by omega)) (by kernel_rfl) (fun u => ?_)
    refine Good.run (by kernel_rfl) (stop := 4) 1000 _ ?_
    refine Good.ask (opS .eql 9 (.tmp 29) (.tmp 31) (strOf (quoL l)) (strOf (quoL l))) (.bool true) (by kernel_rfl) (fun w1 hw h => run_eqS (by simp)) ?_
    refine Good.run (by kernel_rfl) (stop := 8) 1000 _ ?_
    refine Good.ask (opS .eql 9 (.tmp 34) (.tmp 35) (strOf p) (strOf p)) (.bool true) (by kernel_rfl) (fun w1 hw h => run_eqS (by simp)) ?_
    refine Good.run (by kernel_rfl) (stop := 1000) 1000 _ ?_
    refine Good.callv (fun w1 hw h => example5_m (hM.below hw)) (by kernel_rfl) (fun u => ?_)
    refine Good.run (by kernel_rfl) (stop := 1000) 1000 _ ?_
    refine Good.ret (v := .bool true) (by kernel_rfl) (fun w1 hw h => ⟨(), rfl, hw, fun _ _ _ => trivial⟩)
/-! The alphabet. -/
theorem alph_cases {b : UInt8} (h : plainB b = true ∨ b = 42) : (97 ≤ b.toNat ∧ b.toNat ≤ 122) ∨ (65 ≤ b.toNat ∧ b.toNat ≤ 90) ∨ (48 ≤ b.toNat ∧ b.toNat ≤ 57) ∨ b = 46 ∨ b = 95 ∨ b = 42 ∨ b = 43 ∨ b = 44 ∨ b = 45 ∨ b = 47 ∨ b = 58 ∨ b = 61 ∨ b = 35 := by
  have key : ∀ n : Fin 256, (plainB (UInt8.ofNat n.val) = true ∨ UInt8.ofNat n.val = 42) → (97 ≤ (UInt8.ofNat n.val).toNat ∧ (UInt8.ofNat n.val).toNat ≤ 122) ∨ (65 ≤ (UInt8.ofNat n.val).toNat ∧ (UInt8.ofNat n.val).toNat ≤ 90) ∨ (48 ≤ (UInt8.ofNat n.val).toNat ∧ (UInt8.ofNat n.val).toNat ≤ 57) ∨ UInt8.ofNat n.val = 46 ∨ UInt8.ofNat n.val = 95 ∨ UInt8.ofNat n.val = 42 ∨ UInt8.ofNat n.val = 43 ∨ UInt8.ofNat n.val = 44 ∨ UInt8.ofNat n.val = 45 ∨ UInt8.ofNat n.val = 47 ∨ UInt8.ofNat n.val = 58 ∨ UInt8.ofNat n.val = 61 ∨ UInt8.ofNat n.val = 35 := by decide +kernel
  have := key ⟨b.toNat, by have := b.toNat_lt; omega⟩
  simp only [UInt8.ofNat_toNat] at this
  exact this h
set_option maxRecDepth 100000 in
set_option maxHeartbeats 4000000 in
theorem lawAlphabet (hM : ML w) : Calls Tryd.prog 6 #[strOf l, strOf m] w (CallPost w (fun _ : Unit => .bool true) fun _ _ => True) := by
  by_cases hl : l.length ≤ 2000
  case neg =>
    refine Good.enter Tryd.func6 rfl ?_
    refine Good.run (by kernel_rfl) (stop := 3) 1000 _ ?_
    refine Good.slot 10 (.bool (decide ((l.length : Int) > 2000))) (.bool true) (by kernel_rfl) (by rw [decide_eq_true (by omega)]) ?_
    refine Good.run (by kernel_rfl) (stop := 1000) 1000 _ ?_
    refine Good.cond true (by kernel_rfl) ?_
    refine Good.run (by kernel_rfl) (stop := 1000) 1000 _ ?_
    refine Good.callv (fun w1 hw h => example5_m (hM.below hw)) (by kernel_rfl) (fun u => ?_)
    refine Good.run (by kernel_rfl) (stop := 1000) 1000 _ ?_
    refine Good.ret (v := .bool true) (by kernel_rfl) (fun w1 hw h => ⟨(), rfl, hw, fun _ _ _ => trivial⟩)
  by_cases hm : m.length ≤ 2000
  case neg =>
    refine Good.enter Tryd.func6 rfl ?_
    refine Good.run (by kernel_rfl) (stop := 3) 1000 _ ?_
    refine Good.slot 10 (.bool (decide ((l.length : Int) > 2000))) (.bool false) (by kernel_rfl) (by rw [decide_eq_false (by omega)]) ?_
    refine Good.run (by kernel_rfl) (stop := 1000) 1000 _ ?_
    refine Good.condr (decide ((m.length : Int) > 2000)) true (by kernel_rfl) (by simp; omega) ?_
    refine Good.run (by kernel_rfl) (stop := 1000) 1000 _ ?_
    refine Good.callv (fun w1 hw h => example5_m (hM.below hw)) (by kernel_rfl) (fun u => ?_)
    refine Good.run (by kernel_rfl) (stop := 1000) 1000 _ ?_
    refine Good.ret (v := .bool true) (by kernel_rfl) (fun w1 hw h => ⟨(), rfl, hw, fun _ _ _ => trivial⟩)
  have hq := quo_len l
  have hqm := quo_ne l
  obtain ⟨B, hB⟩ : ∃ B, B = decide (l = m) := ⟨_, rfl⟩
  have hB1 : (quoL l == quoL m) = B := by
    rw [hB]
    by_cases e : l = m
    · rw [decide_eq_true e, e]; simp
    · rw [decide_eq_false e]; exact beq_eq_false_iff_ne.2 fun k => e (quo_inj k)
  have hB2 : (l == m) = B := by
    rw [hB]
    by_cases e : l = m
    · rw [decide_eq_true e, e]; simp
    · rw [decide_eq_false e]; exact beq_eq_false_iff_ne.2 e
  refine Good.enter Tryd.func6 rfl ?_
  refine Good.run (by kernel_rfl) (stop := 3) 1000 _ ?_
  refine Good.slot 10 (.bool (decide ((l.length : Int) > 2000))) (.bool false) (by kernel_rfl) (by rw [decide_eq_false (by omega)]) ?_
  refine Good.run (by kernel_rfl) (stop := 1000) 1000 _ ?_
  refine Good.condr (decide ((m.length : Int) > 2000)) false (by kernel_rfl) (by simp; omega) ?_
  refine Good.run (by kernel_rfl) (stop := 1000) 1000 _ ?_
  refine Good.callv (fun w1 hw h => quote_m (l := l) (by omega)) (by kernel_rfl) (fun u => ?_)
  refine Good.run (by kernel_rfl) (stop := 0) 1000 _ ?_
  refine Good.run (by kernel_rfl) (stop := 1) 1000 _ ?_
  refine Good.ask (opS .eql 9 (.tmp 19) (.const (.string ⟨#[]⟩)) (strOf (quoL l)) (strOf [])) (.bool false) (by kernel_rfl) (fun w1 hw h => run_eqS (by simpa using hqm)) ?_
  refine Good.run (by kernel_rfl) (stop := 11) 1000 _ ?_
  refine Good.slot 29 (.bool (decide (((quoL l).length : Int) > IntKind.i64.wrap (IntKind.i64.wrap (3 * (l.length : Int)) + 1)))) (.bool false) (by kernel_rfl) (by rw [decide_eq_false]; rw [IntWalk.i64_in (3 * (l.length : Int)) (by omega), IntWalk.i64_in _ (by omega)]; omega) ?_
  refine Good.run (by kernel_rfl) (stop := 1000) 1000 _ ?_
  refine Good.callv (fun w1 hw h => quote_m (l := m) (by omega)) (by kernel_rfl) (fun u => ?_)
  refine Good.run (by kernel_rfl) (stop := 15) 1000 _ ?_
  refine Good.ask (opS .eql 9 (.tmp 31) (.tmp 33) (strOf (quoL l)) (strOf (quoL m))) (.bool B) (by kernel_rfl) (fun w1 hw h => run_eqS hB1) ?_
  refine Good.run (by kernel_rfl) (stop := 18) 1000 _ ?_
  refine Good.ask (opS .eql 9 (.tmp 35) (.tmp 36) (strOf l) (strOf m)) (.bool B) (by kernel_rfl) (fun w1 hw h => run_eqS hB2) ?_
  refine Good.run (by kernel_rfl) (stop := 19) 1000 _ ?_
  cases B
  ·
    refine Good.run (by kernel_rfl) (stop := 1000) 1000 _ ?_
    refine Good.cond false (by kernel_rfl) ?_
    refine Good.run (by kernel_rfl) (stop := 1000) 1000 _ ?_
    refine Good.loop (ι := {k : Nat // k ≤ (quoL l).length}) 88 (fun q => ⟨[(5, .v (strOf (quoL l))), (6, .v (.int .i64 q.1))], []⟩) (fun _ _ => True) (fun q => (quoL l).length - q.1) (⟨0, Nat.zero_le _⟩) (by kernel_rfl) (fun _ => by kernel_rfl) ⟨by kernel_rfl, by kernel_rfl, by kernel_rfl⟩ (fun _ _ => trivial) ?_
    rintro ⟨k, hk⟩ g
    by_cases hlt : k < (quoL l).length
    · obtain ⟨b, hb⟩ : ∃ b, (quoL l)[k]? = some b := ⟨_, List.getElem?_eq_getElem hlt⟩
      have hal := alph_cases (quo_mem (List.mem_of_getElem? hb))
      refine Good.run (by kernel_rfl) (stop := 1000) 1000 _ ?_
      refine Good.condr (decide ((k : Int) < ((quoL l).length : Int))) true (by kernel_rfl) (by simp; omega) ?_
      refine Good.run (by kernel_rfl) (stop := 2) 1000 _ ?_
      rcases hal with hal | hal | hal | rfl | rfl | rfl | rfl | rfl | rfl | rfl | rfl | rfl | rfl
      ·
        refine Good.ask (ixS 9 (strOf (quoL l)) k) (.int .u8 b.toNat) (by kernel_rfl) (fun w1 hw h => run_ixP (by kernel_rfl) hb) ?_
        refine Good.run (by kernel_rfl) (stop := 3) 1000 _ ?_
        refine Good.run (by kernel_rfl) (stop := 1000) 1 _ ?_
        refine Good.run (by kernel_rfl) (stop := 2) 1000 _ ?_
        refine Good.slot 51 (.bool (decide ((((b.toNat : Nat)) : Int) ≥ 97))) (.bool true) (by kernel_rfl) (by rw [decide_eq_true (by omega)]) ?_
        refine Good.run (by kernel_rfl) (stop := 5) 1000 _ ?_
        refine Good.slot 54 (.bool (decide ((((b.toNat : Nat)) : Int) ≤ 122))) (.bool true) (by kernel_rfl) (by rw [decide_eq_true (by omega)]) ?_
        refine Good.runC (by kernel_rfl) (stop := 1000) 6000 _ ?_
        refine Good.slot 6 (.int .i64 (IntKind.i64.wrap ((k : Int) + 1))) (.int .i64 ((k + 1 : Nat) : Int)) (by kernel_rfl) (by rw [wrap_succ hlt (by omega)]) ?_
        refine Good.next (⟨k + 1, by show k + 1 ≤ (quoL l).length; omega⟩) (by kernel_rfl) (by show (quoL l).length - (k + 1) < (quoL l).length - k; omega) ⟨by kernel_rfl, by kernel_rfl, by kernel_rfl⟩ (fun _ _ => trivial)
      ·
        refine Good.ask (ixS 9 (strOf (quoL l)) k) (.int .u8 b.toNat) (by kernel_rfl) (fun w1 hw h => run_ixP (by kernel_rfl) hb) ?_
        refine Good.run (by kernel_rfl) (stop := 3) 1000 _ ?_
        refine Good.run (by kernel_rfl) (stop := 1000) 1 _ ?_
        refine Good.run (by kernel_rfl) (stop := 2) 1000 _ ?_
        refine Good.slot 51 (.bool (decide ((((b.toNat : Nat)) : Int) ≥ 97))) (.bool false) (by kernel_rfl) (by rw [decide_eq_false (by omega)]) ?_
        refine Good.run (by kernel_rfl) (stop := 1000) 1000 _ ?_
        refine Good.cond false (by kernel_rfl) ?_
        refine Good.run (by kernel_rfl) (stop := 2) 1000 _ ?_
        refine Good.slot 57 (.bool (decide ((((b.toNat : Nat)) : Int) ≥ 65))) (.bool true) (by kernel_rfl) (by rw [decide_eq_true (by omega)]) ?_
        refine Good.run (by kernel_rfl) (stop := 5) 1000 _ ?_
        refine Good.slot 60 (.bool (decide ((((b.toNat : Nat)) : Int) ≤ 90))) (.bool true) (by kernel_rfl) (by rw [decide_eq_true (by omega)]) ?_
        refine Good.runC (by kernel_rfl) (stop := 1000) 6000 _ ?_
        refine Good.slot 6 (.int .i64 (IntKind.i64.wrap ((k : Int) + 1))) (.int .i64 ((k + 1 : Nat) : Int)) (by kernel_rfl) (by rw [wrap_succ hlt (by omega)]) ?_
        refine Good.next (⟨k + 1, by show k + 1 ≤ (quoL l).length; omega⟩) (by kernel_rfl) (by show (quoL l).length - (k + 1) < (quoL l).length - k; omega) ⟨by kernel_rfl, by kernel_rfl, by kernel_rfl⟩ (fun _ _ => trivial)
      ·
        refine Good.ask (ixS 9 (strOf (quoL l)) k) (.int .u8 b.toNat) (by kernel_rfl) (fun w1 hw h => run_ixP (by kernel_rfl) hb) ?_
        refine Good.run (by kernel_rfl) (stop := 3) 1000 _ ?_
        refine Good.run (by kernel_rfl) (stop := 1000) 1 _ ?_
        refine Good.run (by kernel_rfl) (stop := 2) 1000 _ ?_
        refine Good.slot 51 (.bool (decide ((((b.toNat : Nat)) : Int) ≥ 97))) (.bool false) (by kernel_rfl) (by rw [decide_eq_false (by omega)]) ?_
        refine Good.run (by kernel_rfl) (stop := 1000) 1000 _ ?_
        refine Good.cond false (by kernel_rfl) ?_
        refine Good.run (by kernel_rfl) (stop := 2) 1000 _ ?_
        refine Good.slot 57 (.bool (decide ((((b.toNat : Nat)) : Int) ≥ 65))) (.bool false) (by kernel_rfl) (by rw [decide_eq_false (by omega)]) ?_
        refine Good.run (by kernel_rfl) (stop := 1000) 1000 _ ?_
        refine Good.cond false (by kernel_rfl) ?_
        refine Good.run (by kernel_rfl) (stop := 2) 1000 _ ?_
        refine Good.slot 63 (.bool (decide ((((b.toNat : Nat)) : Int) ≥ 48))) (.bool true) (by kernel_rfl) (by rw [decide_eq_true (by omega)]) ?_
        refine Good.run (by kernel_rfl) (stop := 5) 1000 _ ?_
        refine Good.slot 66 (.bool (decide ((((b.toNat : Nat)) : Int) ≤ 57))) (.bool true) (by kernel_rfl) (by rw [decide_eq_true (by omega)]) ?_
        refine Good.runC (by kernel_rfl) (stop := 1000) 6000 _ ?_
        refine Good.slot 6 (.int .i64 (IntKind.i64.wrap ((k : Int) + 1))) (.int .i64 ((k + 1 : Nat) : Int)) (by kernel_rfl) (by rw [wrap_succ hlt (by omega)]) ?_
        refine Good.next (⟨k + 1, by show k + 1 ≤ (quoL l).length; omega⟩) (by kernel_rfl) (by show (quoL l).length - (k + 1) < (quoL l).length - k; omega) ⟨by kernel_rfl, by kernel_rfl, by kernel_rfl⟩ (fun _ _ => trivial)
      ·
        refine Good.ask (ixS 9 (strOf (quoL l)) k) (.int .u8 46) (by kernel_rfl) (fun w1 hw h => run_ixP (b := 46) (by kernel_rfl) hb) ?_
        refine Good.run (by kernel_rfl) (stop := 1000) 1000 _ ?_
        refine Good.runC (by kernel_rfl) (stop := 1000) 6000 _ ?_
        refine Good.slot 6 (.int .i64 (IntKind.i64.wrap ((k : Int) + 1))) (.int .i64 ((k + 1 : Nat) : Int)) (by kernel_rfl) (by rw [wrap_succ hlt (by omega)]) ?_
        refine Good.next (⟨k + 1, by show k + 1 ≤ (quoL l).length; omega⟩) (by kernel_rfl) (by show (quoL l).length - (k + 1) < (quoL l).length - k; omega) ⟨by kernel_rfl, by kernel_rfl, by kernel_rfl⟩ (fun _ _ => trivial)
      ·
        refine Good.ask (ixS 9 (strOf (quoL l)) k) (.int .u8 95) (by kernel_rfl) (fun w1 hw h => run_ixP (b := 95) (by kernel_rfl) hb) ?_
        refine Good.run (by kernel_rfl) (stop := 1000) 1000 _ ?_
        refine Good.runC (by kernel_rfl) (stop := 1000) 6000 _ ?_
        refine Good.slot 6 (.int .i64 (IntKind.i64.wrap ((k : Int) + 1))) (.int .i64 ((k + 1 : Nat) : Int)) (by kernel_rfl) (by rw [wrap_succ hlt (by omega)]) ?_
        refine Good.next (⟨k + 1, by show k + 1 ≤ (quoL l).length; omega⟩) (by kernel_rfl) (by show (quoL l).length - (k + 1) < (quoL l).length - k; omega) ⟨by kernel_rfl, by kernel_rfl, by kernel_rfl⟩ (fun _ _ => trivial)
      ·
        refine Good.ask (ixS 9 (strOf (quoL l)) k) (.int .u8 42) (by kernel_rfl) (fun w1 hw h => run_ixP (b := 42) (by kernel_rfl) hb) ?_
        refine Good.run (by kernel_rfl) (stop := 1000) 1000 _ ?_
        refine Good.runC (by kernel_rfl) (stop := 1000) 6000 _ ?_
        refine Good.slot 6 (.int .i64 (IntKind.i64.wrap ((k : Int) + 1))) (.int .i64 ((k + 1 : Nat) : Int)) (by kernel_rfl) (by rw [wrap_succ hlt (by omega)]) ?_
        refine Good.next (⟨k + 1, by show k + 1 ≤ (quoL l).length; omega⟩) (by kernel_rfl) (by show (quoL l).length - (k + 1) < (quoL l).length - k; omega) ⟨by kernel_rfl, by kernel_rfl, by kernel_rfl⟩ (fun _ _ => trivial)
      ·
        refine Good.ask (ixS 9 (strOf (quoL l)) k) (.int .u8 43) (by kernel_rfl) (fun w1 hw h => run_ixP (b := 43) (by kernel_rfl) hb) ?_
        refine Good.run (by kernel_rfl) (stop := 1000) 1000 _ ?_
        refine Good.runC (by kernel_rfl) (stop := 1000) 6000 _ ?_
        refine Good.slot 6 (.int .i64 (IntKind.i64.wrap ((k : Int) + 1))) (.int .i64 ((k + 1 : Nat) : Int)) (by kernel_rfl) (by rw [wrap_succ hlt (by omega)]) ?_
        refine Good.next (⟨k + 1, by show k + 1 ≤ (quoL l).length; omega⟩) (by kernel_rfl) (by show (quoL l).length - (k + 1) < (quoL l).length - k; omega) ⟨by kernel_rfl, by kernel_rfl, by kernel_rfl⟩ (fun _ _ => trivial)
      ·
        refine Good.ask (ixS 9 (strOf (quoL l)) k) (.int .u8 44) (by kernel_rfl) (fun w1 hw h => run_ixP (b := 44) (by kernel_rfl) hb) ?_
        refine Good.run (by kernel_rfl) (stop := 1000) 1000 _ ?_
        refine Good.runC (by kernel_rfl) (stop := 1000) 6000 _ ?_
        refine Good.slot 6 (.int .i64 (IntKind.i64.wrap ((k : Int) + 1))) (.int .i64 ((k + 1 : Nat) : Int)) (by kernel_rfl) (by rw [wrap_succ hlt (by omega)]) ?_
        refine Good.next (⟨k + 1, by show k + 1 ≤ (quoL l).length; omega⟩) (by kernel_rfl) (by show (quoL l).length - (k + 1) < (quoL l).length - k; omega) ⟨by kernel_rfl, by kernel_rfl, by kernel_rfl⟩ (fun _ _ => trivial)
      ·
        refine Good.ask (ixS 9 (strOf (quoL l)) k) (.int .u8 45) (by kernel_rfl) (fun w1 hw h => run_ixP (b := 45) (by kernel_rfl) hb) ?_
        refine Good.run (by kernel_rfl) (stop := 1000) 1000 _ ?_
        refine Good.runC (by kernel_rfl) (stop := 1000) 6000 _ ?_
        refine Good.slot 6 (.int .i64 (IntKind.i64.wrap ((k : Int) + 1))) (.int .i64 ((k + 1 : Nat) : Int)) (by kernel_rfl) (by rw [wrap_succ hlt (by omega)]) ?_
        refine Good.next (⟨k + 1, by show k + 1 ≤ (quoL l).length; omega⟩) (by kernel_rfl) (by show (quoL l).length - (k + 1) < (quoL l).length - k; omega) ⟨by kernel_rfl, by kernel_rfl, by kernel_rfl⟩ (fun _ _ => trivial)
      ·
        refine Good.ask (ixS 9 (strOf (quoL l)) k) (.int .u8 47) (by kernel_rfl) (fun w1 hw h => run_ixP (b := 47) (by kernel_rfl) hb) ?_
        refine Good.run (by kernel_rfl) (stop := 1000) 1000 _ ?_
        refine Good.runC (by kernel_rfl) (stop := 1000) 6000 _ ?_
        refine Good.slot 6 (.int .i64 (IntKind.i64.wrap ((k : Int) + 1))) (.int .i64 ((k + 1 : Nat) : Int)) (by kernel_rfl) (by rw [wrap_succ hlt (by omega)]) ?_
        refine Good.next (⟨k + 1, by show k + 1 ≤ (quoL l).length; omega⟩) (by kernel_rfl) (by show (quoL l).length - (k + 1) < (quoL l).length - k; omega) ⟨by kernel_rfl, by kernel_rfl, by kernel_rfl⟩ (fun _ _ => trivial)
      ·
        refine Good.ask (ixS 9 (strOf (quoL l)) k) (.int .u8 58) (by kernel_rfl) (fun w1 hw h => run_ixP (b := 58) (by kernel_rfl) hb) ?_
        refine Good.run (by kernel_rfl) (stop := 1000) 1000 _ ?_
        refine Good.runC (by kernel_rfl) (stop := 1000) 6000 _ ?_
        refine Good.slot 6 (.int .i64 (IntKind.i64.wrap ((k : Int) + 1))) (.int .i64 ((k + 1 : Nat) : Int)) (by kernel_rfl) (by rw [wrap_succ hlt (by omega)]) ?_
        refine Good.next (⟨k + 1, by show k + 1 ≤ (quoL l).length; omega⟩) (by kernel_rfl) (by show (quoL l).length - (k + 1) < (quoL l).length - k; omega) ⟨by kernel_rfl, by kernel_rfl, by kernel_rfl⟩ (fun _ _ => trivial)
      ·
        refine Good.ask (ixS 9 (strOf (quoL l)) k) (.int .u8 61) (by kernel_rfl) (fun w1 hw h => run_ixP (b := 61) (by kernel_rfl) hb) ?_
        refine Good.run (by kernel_rfl) (stop := 1000) 1000 _ ?_
        refine Good.runC (by kernel_rfl) (stop := 1000) 6000 _ ?_
        refine Good.slot 6 (.int .i64 (IntKind.i64.wrap ((k : Int) + 1))) (.int .i64 ((k + 1 : Nat) : Int)) (by kernel_rfl) (by rw [wrap_succ hlt (by omega)]) ?_
        refine Good.next (⟨k + 1, by show k + 1 ≤ (quoL l).length; omega⟩) (by kernel_rfl) (by show (quoL l).length - (k + 1) < (quoL l).length - k; omega) ⟨by kernel_rfl, by kernel_rfl, by kernel_rfl⟩ (fun _ _ => trivial)
      ·
        refine Good.ask (ixS 9 (strOf (quoL l)) k) (.int .u8 35) (by kernel_rfl) (fun w1 hw h => run_ixP (b := 35) (by kernel_rfl) hb) ?_
        refine Good.run (by kernel_rfl) (stop := 1000) 1000 _ ?_
        refine Good.runC (by kernel_rfl) (stop := 1000) 6000 _ ?_
        refine Good.slot 6 (.int .i64 (IntKind.i64.wrap ((k : Int) + 1))) (.int .i64 ((k + 1 : Nat) : Int)) (by kernel_rfl) (by rw [wrap_succ hlt (by omega)]) ?_
        refine Good.next (⟨k + 1, by show k + 1 ≤ (quoL l).length; omega⟩) (by kernel_rfl) (by show (quoL l).length - (k + 1) < (quoL l).length - k; omega) ⟨by kernel_rfl, by kernel_rfl, by kernel_rfl⟩ (fun _ _ => trivial)
    ·
      refine Good.run (by kernel_rfl) (stop := 1000) 1000 _ ?_
      refine Good.condr (decide ((k : Int) < ((quoL l).length : Int))) false (by kernel_rfl) (by simp; omega) ?_
      refine Good.run (by kernel_rfl) (stop := 1000) 1000 _ ?_
      refine Good.leave (by kernel_rfl) ?_
      refine Good.run (by kernel_rfl) (stop := 1000) 1000 _ ?_
      refine Good.callv (fun w1 hw h => example5_m (hM.below hw)) (by kernel_rfl) (fun u => ?_)
      refine Good.run (by kernel_rfl) (stop := 1000) 1000 _ ?_
      refine Good.ret (v := .bool true) (by kernel_rfl) (fun w1 hw h => ⟨(), rfl, hw, fun _ _ _ => trivial⟩)
  ·
    refine Good.run (by kernel_rfl) (stop := 1000) 1000 _ ?_
    refine Good.cond false (by kernel_rfl) ?_
    refine Good.run (by kernel_rfl) (stop := 1000) 1000 _ ?_
    refine Good.loop (ι := {k : Nat // k ≤ (quoL l).length}) 88 (fun q => ⟨[(5, .v (strOf (quoL l))), (6, .v (.int .i64 q.1))], []⟩) (fun _ _ => True) (fun q => (quoL l).length - q.1) (⟨0, Nat.zero_le _⟩) (by kernel_rfl) (fun _ => by kernel_rfl) ⟨by kernel_rfl, by kernel_rfl, by kernel_rfl⟩ (fun _ _ => trivial) ?_
    rintro ⟨k, hk⟩ g
    by_cases hlt : k < (quoL l).length
    · obtain ⟨b, hb⟩ : ∃ b, (quoL l)[k]? = some b := ⟨_, List.getElem?_eq_getElem hlt⟩
      have hal := alph_cases (quo_mem (List.mem_of_getElem? hb))
      refine Good.run (by kernel_rfl) (stop := 1000) 1000 _ ?_
      refine Good.condr (decide ((k : Int) < ((quoL l).length : Int))) true (by kernel_rfl) (by simp; omega) ?_
      refine Good.run (by kernel_rfl) (stop := 2) 1000 _ ?_
      rcases hal with hal | hal | hal | rfl | rfl | rfl | rfl | rfl | rfl | rfl | rfl | rfl | rfl
      ·
        refine Good.ask (ixS 9 (strOf (quoL l)) k) (.int .u8 b.toNat) (by kernel_rfl) (fun w1 hw h => run_ixP (by kernel_rfl) hb) ?_
        refine Good.run (by kernel_rfl) (stop := 3) 1000 _ ?_
        refine Good.run (by kernel_rfl) (stop := 1000) 1 _ ?_
        refine Good.run (by kernel_rfl) (stop := 2) 1000 _ ?_
        refine Good.slot 51 (.bool (decide ((((b.toNat : Nat)) : Int) ≥ 97))) (.bool true) (by kernel_rfl) (by rw [decide_eq_true (by omega)]) ?_
        refine Good.run (by kernel_rfl) (stop := 5) 1000 _ ?_
        refine Good.slot 54 (.bool (decide ((((b.toNat : Nat)) : Int) ≤ 122))) (.bool true) (by kernel_rfl) (by rw [decide_eq_true (by omega)]) ?_
        refine Good.runC (by kernel_rfl) (stop := 1000) 6000 _ ?_
        refine Good.slot 6 (.int .i64 (IntKind.i64.wrap ((k : Int) + 1))) (.int .i64 ((k + 1 : Nat) : Int)) (by kernel_rfl) (by rw [wrap_succ hlt (by omega)]) ?_
        refine Good.next (⟨k + 1, by show k + 1 ≤ (quoL l).length; omega⟩) (by kernel_rfl) (by show (quoL l).length - (k + 1) < (quoL l).length - k; omega) ⟨by kernel_rfl, by kernel_rfl, by kernel_rfl⟩ (fun _ _ => trivial)
      ·
        refine Good.ask (ixS 9 (strOf (quoL l)) k) (.int .u8 b.toNat) (by kernel_rfl) (fun w1 hw h => run_ixP (by kernel_rfl) hb) ?_
        refine Good.run (by kernel_rfl) (stop := 3) 1000 _ ?_
        refine Good.run (by kernel_rfl) (stop := 1000) 1 _ ?_
        refine Good.run (by kernel_rfl) (stop := 2) 1000 _ ?_
        refine Good.slot 51 (.bool (decide ((((b.toNat : Nat)) : Int) ≥ 97))) (.bool false) (by kernel_rfl) (by rw [decide_eq_false (by omega)]) ?_
        refine Good.run (by kernel_rfl) (stop := 1000) 1000 _ ?_
        refine Good.cond false (by kernel_rfl) ?_
        refine Good.run (by kernel_rfl) (stop := 2) 1000 _ ?_
        refine Good.slot 57 (.bool (decide ((((b.toNat : Nat)) : Int) ≥ 65))) (.bool true) (by kernel_rfl) (by rw [decide_eq_true (by omega)]) ?_
        refine Good.run (by kernel_rfl) (stop := 5) 1000 _ ?_
        refine Good.slot 60 (.bool (decide ((((b.toNat : Nat)) : Int) ≤ 90))) (.bool true) (by kernel_rfl) (by rw [decide_eq_true (by omega)]) ?_
        refine Good.runC (by kernel_rfl) (stop := 1000) 6000 _ ?_
        refine Good.slot 6 (.int .i64 (IntKind.i64.wrap ((k : Int) + 1))) (.int .i64 ((k + 1 : Nat) : Int)) (by kernel_rfl) (by rw [wrap_succ hlt (by omega)]) ?_
        refine Good.next (⟨k + 1, by show k + 1 ≤ (quoL l).length; omega⟩) (by kernel_rfl) (by show (quoL l).length - (k + 1) < (quoL l).length - k; omega) ⟨by kernel_rfl, by kernel_rfl, by kernel_rfl⟩ (fun _ _ => trivial)
      ·
        refine Good.ask (ixS 9 (strOf (quoL l)) k) (.int .u8 b.toNat) (by kernel_rfl) (fun w1 hw h => run_ixP (by kernel_rfl) hb) ?_
        refine Good.run (by kernel_rfl) (stop := 3) 1000 _ ?_
        refine Good.run (by kernel_rfl) (stop := 1000) 1 _ ?_
        refine Good.run (by kernel_rfl) (stop := 2) 1000 _ ?_
        refine Good.slot 51 (.bool (decide ((((b.toNat : Nat)) : Int) ≥ 97))) (.bool false) (by kernel_rfl) (by rw [decide_eq_false (by omega)]) ?_
        refine Good.run (by kernel_rfl) (stop := 1000) 1000 _ ?_
        refine Good.cond false (by kernel_rfl) ?_
        refine Good.run (by kernel_rfl) (stop := 2) 1000 _ ?_
        refine Good.slot 57 (.bool (decide ((((b.toNat : Nat)) : Int) ≥ 65))) (.bool false) (by kernel_rfl) (by rw [decide_eq_false (by omega)]) ?_
        refine Good.run (by kernel_rfl) (stop := 1000) 1000 _ ?_
        refine Good.cond false (by kernel_rfl) ?_
        refine Good.run (by kernel_rfl) (stop := 2) 1000 _ ?_
        refine Good.slot 63 (.bool (decide ((((b.toNat : Nat)) : Int) ≥ 48))) (.bool true) (by kernel_rfl) (by rw [decide_eq_true (by omega)]) ?_
        refine Good.run (by kernel_rfl) (stop := 5) 1000 _ ?_
        refine Good.slot 66 (.bool (decide ((((b.toNat : Nat)) : Int) ≤ 57))) (.bool true) (by kernel_rfl) (by rw [decide_eq_true (by omega)]) ?_
        refine Good.runC (by kernel_rfl) (stop := 1000) 6000 _ ?_
        refine Good.slot 6 (.int .i64 (IntKind.i64.wrap ((k : Int) + 1))) (.int .i64 ((k + 1 : Nat) : Int)) (by kernel_rfl) (by rw [wrap_succ hlt (by omega)]) ?_
        refine Good.next (⟨k + 1, by show k + 1 ≤ (quoL l).length; omega⟩) (by kernel_rfl) (by show (quoL l).length - (k + 1) < (quoL l).length - k; omega) ⟨by kernel_rfl, by kernel_rfl, by kernel_rfl⟩ (fun _ _ => trivial)
      ·
        refine Good.ask (ixS 9 (strOf (quoL l)) k) (.int .u8 46) (by kernel_rfl) (fun w1 hw h => run_ixP (b := 46) (by kernel_rfl) hb) ?_
        refine Good.run (by kernel_rfl) (stop := 1000) 1000 _ ?_
        refine Good.runC (by kernel_rfl) (stop := 1000) 6000 _ ?_
        refine Good.slot 6 (.int .i64 (IntKind.i64.wrap ((k : Int) + 1))) (.int .i64 ((k + 1 : Nat) : Int)) (by kernel_rfl) (by rw [wrap_succ hlt (by omega)]) ?_
        refine Good.next (⟨k + 1, by show k + 1 ≤ (quoL l).length; omega⟩) (by kernel_rfl) (by show (quoL l).length - (k + 1) < (quoL l).length - k; omega) ⟨by kernel_rfl, by kernel_rfl, by kernel_rfl⟩ (fun _ _ => trivial)
      ·
        refine Good.ask (ixS 9 (strOf (quoL l)) k) (.int .u8 95) (by kernel_rfl) (fun w1 hw h => run_ixP (b := 95) (by kernel_rfl) hb) ?_
        refine Good.run (by kernel_rfl) (stop := 1000) 1000 _ ?_
        refine Good.runC (by kernel_rfl) (stop := 1000) 6000 _ ?_
        refine Good.slot 6 (.int .i64 (IntKind.i64.wrap ((k : Int) + 1))) (.int .i64 ((k + 1 : Nat) : Int)) (by kernel_rfl) (by rw [wrap_succ hlt (by omega)]) ?_
        refine Good.next (⟨k + 1, by show k + 1 ≤ (quoL l).length; omega⟩) (by kernel_rfl) (by show (quoL l).length - (k + 1) < (quoL l).length - k; omega) ⟨by kernel_rfl, by kernel_rfl, by kernel_rfl⟩ (fun _ _ => trivial)
      ·
        refine Good.ask (ixS 9 (strOf (quoL l)) k) (.int .u8 42) (by kernel_rfl) (fun w1 hw h => run_ixP (b := 42) (by kernel_rfl) hb) ?_
        refine Good.run (by kernel_rfl) (stop := 1000) 1000 _ ?_
        refine Good.runC (by kernel_rfl) (stop := 1000) 6000 _ ?_
        refine Good.slot 6 (.int .i64 (IntKind.i64.wrap ((k : Int) + 1))) (.int .i64 ((k + 1 : Nat) : Int)) (by kernel_rfl) (by rw [wrap_succ hlt (by omega)]) ?_
        refine Good.next (⟨k + 1, by show k + 1 ≤ (quoL l).length; omega⟩) (by kernel_rfl) (by show (quoL l).length - (k + 1) < (quoL l).length - k; omega) ⟨by kernel_rfl, by kernel_rfl, by kernel_rfl⟩ (fun _ _ => trivial)
      ·
        refine Good.ask (ixS 9 (strOf (quoL l)) k) (.int .u8 43) (by kernel_rfl) (fun w1 hw h => run_ixP (b := 43) (by kernel_rfl) hb) ?_
        refine Good.run (by kernel_rfl) (stop := 1000) 1000 _ ?_
        refine Good.runC (by kernel_rfl) (stop := 1000) 6000 _ ?_
        refine Good.slot 6 (.int .i64 (IntKind.i64.wrap ((k : Int) + 1))) (.int .i64 ((k + 1 : Nat) : Int)) (by kernel_rfl) (by rw [wrap_succ hlt (by omega)]) ?_
        refine Good.next (⟨k + 1, by show k + 1 ≤ (quoL l).length; omega⟩) (by kernel_rfl) (by show (quoL l).length - (k + 1) < (quoL l).length - k; omega) ⟨by kernel_rfl, by kernel_rfl, by kernel_rfl⟩ (fun _ _ => trivial)
      ·
        refine Good.ask (ixS 9 (strOf (quoL l)) k) (.int .u8 44) (by kernel_rfl) (fun w1 hw h => run_ixP (b := 44) (by kernel_rfl) hb) ?_
        refine Good.run (by kernel_rfl) (stop := 1000) 1000 _ ?_
        refine Good.runC (by kernel_rfl) (stop := 1000) 6000 _ ?_
        refine Good.slot 6 (.int .i64 (IntKind.i64.wrap ((k : Int) + 1))) (.int .i64 ((k + 1 : Nat) : Int)) (by kernel_rfl) (by rw [wrap_succ hlt (by omega)]) ?_
        refine Good.next (⟨k + 1, by show k + 1 ≤ (quoL l).length; omega⟩) (by kernel_rfl) (by show (quoL l).length - (k + 1) < (quoL l).length - k; omega) ⟨by kernel_rfl, by kernel_rfl, by kernel_rfl⟩ (fun _ _ => trivial)
      ·
        refine Good.ask (ixS 9 (strOf (quoL l)) k) (.int .u8 45) (by kernel_rfl) (fun w1 hw h => run_ixP (b := 45) (by kernel_rfl) hb) ?_
        refine Good.run (by kernel_rfl) (stop := 1000) 1000 _ ?_
        refine Good.runC (by kernel_rfl) (stop := 1000) 6000 _ ?_
        refine Good.slot 6 (.int .i64 (IntKind.i64.wrap ((k : Int) + 1))) (.int .i64 ((k + 1 : Nat) : Int)) (by kernel_rfl) (by rw [wrap_succ hlt (by omega)]) ?_
        refine Good.next (⟨k + 1, by show k + 1 ≤ (quoL l).length; omega⟩) (by kernel_rfl) (by show (quoL l).length - (k + 1) < (quoL l).length - k; omega) ⟨by kernel_rfl, by kernel_rfl, by kernel_rfl⟩ (fun _ _ => trivial)
      ·
        refine Good.ask (ixS 9 (strOf (quoL l)) k) (.int .u8 47) (by kernel_rfl) (fun w1 hw h => run_ixP (b := 47) (by kernel_rfl) hb) ?_
        refine Good.run (by kernel_rfl) (stop := 1000) 1000 _ ?_
        refine Good.runC (by kernel_rfl) (stop := 1000) 6000 _ ?_
        refine Good.slot 6 (.int .i64 (IntKind.i64.wrap ((k : Int) + 1))) (.int .i64 ((k + 1 : Nat) : Int)) (by kernel_rfl) (by rw [wrap_succ hlt (by omega)]) ?_
        refine Good.next (⟨k + 1, by show k + 1 ≤ (quoL l).length; omega⟩) (by kernel_rfl) (by show (quoL l).length - (k + 1) < (quoL l).length - k; omega) ⟨by kernel_rfl, by kernel_rfl, by kernel_rfl⟩ (fun _ _ => trivial)
      ·
        refine Good.ask (ixS 9 (strOf (quoL l)) k) (.int .u8 58) (by kernel_rfl) (fun w1 hw h => run_ixP (b := 58) (by kernel_rfl) hb) ?_
        refine Good.run (by kernel_rfl) (stop := 1000) 1000 _ ?_
        refine Good.runC (by kernel_rfl) (stop := 1000) 6000 _ ?_
        refine Good.slot 6 (.int .i64 (IntKind.i64.wrap ((k : Int) + 1))) (.int .i64 ((k + 1 : Nat) : Int)) (by kernel_rfl) (by rw [wrap_succ hlt (by omega)]) ?_
        refine Good.next (⟨k + 1, by show k + 1 ≤ (quoL l).length; omega⟩) (by kernel_rfl) (by show (quoL l).length - (k + 1) < (quoL l).length - k; omega) ⟨by kernel_rfl, by kernel_rfl, by kernel_rfl⟩ (fun _ _ => trivial)
      ·
        refine Good.ask (ixS 9 (strOf (quoL l)) k) (.int .u8 61) (by kernel_rfl) (fun w1 hw h => run_ixP (b := 61) (by kernel_rfl) hb) ?_
        refine Good.run (by kernel_rfl) (stop := 1000) 1000 _ ?_
        refine Good.runC (by kernel_rfl) (stop := 1000) 6000 _ ?_
        refine Good.slot 6 (.int .i64 (IntKind.i64.wrap ((k : Int) + 1))) (.int .i64 ((k + 1 : Nat) : Int)) (by kernel_rfl) (by rw [wrap_succ hlt (by omega)]) ?_
        refine Good.next (⟨k + 1, by show k + 1 ≤ (quoL l).length; omega⟩) (by kernel_rfl) (by show (quoL l).length - (k + 1) < (quoL l).length - k; omega) ⟨by kernel_rfl, by kernel_rfl, by kernel_rfl⟩ (fun _ _ => trivial)
      ·
        refine Good.ask (ixS 9 (strOf (quoL l)) k) (.int .u8 35) (by kernel_rfl) (fun w1 hw h => run_ixP (b := 35) (by kernel_rfl) hb) ?_
        refine Good.run (by kernel_rfl) (stop := 1000) 1000 _ ?_
        refine Good.runC (by kernel_rfl) (stop := 1000) 6000 _ ?_
        refine Good.slot 6 (.int .i64 (IntKind.i64.wrap ((k : Int) + 1))) (.int .i64 ((k + 1 : Nat) : Int)) (by kernel_rfl) (by rw [wrap_succ hlt (by omega)]) ?_
        refine Good.next (⟨k + 1, by show k + 1 ≤ (quoL l).length; omega⟩) (by kernel_rfl) (by show (quoL l).length - (k + 1) < (quoL l).length - k; omega) ⟨by kernel_rfl, by kernel_rfl, by kernel_rfl⟩ (fun _ _ => trivial)
    ·
      refine Good.run (by kernel_rfl) (stop := 1000) 1000 _ ?_
      refine Good.condr (decide ((k : Int) < ((quoL l).length : Int))) false (by kernel_rfl) (by simp; omega) ?_
      refine Good.run (by kernel_rfl) (stop := 1000) 1000 _ ?_
      refine Good.leave (by kernel_rfl) ?_
      refine Good.run (by kernel_rfl) (stop := 1000) 1000 _ ?_
      refine Good.callv (fun w1 hw h => example5_m (hM.below hw)) (by kernel_rfl) (fun u => ?_)
      refine Good.run (by kernel_rfl) (stop := 1000) 1000 _ ?_
      refine Good.ret (v := .bool true) (by kernel_rfl) (fun w1 hw h => ⟨(), rfl, hw, fun _ _ _ => trivial⟩)
end

end Go.Proofs.YtgkiopplcpnajaaDoor
