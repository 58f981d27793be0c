/-
  Text of numbers: part two.
-/
import Derived.Test.YtlpnjoenkohadaaUP
import Derived.Test.YtlpnjoenkohadaaAr
import Derived.Test.YtlpnjoenkohadaaRx
namespace Go.Proofs.Ytlpnjoenkohadaa
set_option linter.unusedVariables false
set_option linter.unusedSimpArgs false
open Go.RowKit

/-! Rows of bytes. -/
def BytesAt (w : World) (A : Option Addr) (n : Nat) (bs : List UInt8) : Prop := bs.length = n ∧ ∀ (k : Nat) (b : UInt8), bs[k]? = some b → ∃ ad, A = some ad ∧ w.cell? (ad.add k) = some (.int .u8 b.toNat)
def bv (l : List UInt8) : List Value := l.map fun b => .int .u8 b.toNat
def cvS (src dst : TypeId) (x : Value) : Sem Next := convert src dst x >>= fun v => pure (.value v)
def mkSl (t : TypeId) (c : Int) : Sem Next := Instr.makeSlice t (.int .i64 0) (.int .i64 c) >>= fun v => pure (.value v)
def ixK (t : TypeId) (s : Value) (k : IntKind) (i : Int) : Sem Next := Instr.index t s (.int k i) >>= fun v => pure (.value v)
section
variable {P : Program} {w : World} {l : List UInt8} {t e src dst : TypeId}
theorem run_ixK {i : Nat} {b : UInt8} {kd : IntKind} (ht : P.underlying t = some .string) (h : l[i]? = some b) : (ixK t (strOf l) kd i).run P w = .ok (.value (.int .u8 b.toNat)) w := by
  obtain ⟨h1, h2⟩ := List.getElem?_eq_some_iff.1 h
  have hs : (0 : Int) ≤ (i : Int) ∧ (i : Int) < ((⟨l.toArray⟩ : ByteArray).size : Nat) := ⟨by omega, by show (i : Int) < ((l.length : Nat) : Int); omega⟩
  simp only [ixK, strOf, Sem.run_bind, run_index_string w t ⟨l.toArray⟩ kd i ht, dif_pos hs, Result.andThen_ok, Sem.run_pure]
  have : (⟨l.toArray⟩ : ByteArray)[(i : Int).toNat]'(by omega) = b := h2
  rw [this]
theorem run_cv {A : Option Addr} {c B : Nat} (hs : P.underlying src = some (.slice e)) (he : P.underlying e = some (.int .u8)) (hd : P.underlying dst = some .string) (h : OwnR w B e 1 A l.length c (bv l)) :
    (cvS src dst (.slice A l.length c)).run P w = .ok (.value (strOf l)) w := by
  unfold cvS
  cases A with
  | none =>
    have h0 : l = [] := by
      rcases Nat.eq_zero_or_pos l.length with h0 | h0
      · exact List.length_eq_zero_iff.1 h0
      · obtain ⟨g, hg, _⟩ := h.cells h0; cases hg
    subst h0
    rw [Sem.run_bind, run_convert_bytes_string w src dst e none _ c hs he hd]
    rfl
  | some ad =>
    rw [Sem.run_bind, run_convert_bytes_back w src dst e ad c l hs he hd fun j hj => ?_]
    · rfl
    · obtain ⟨g, hg, hc⟩ := h.cells (by omega)
      injection hg with hg
      have := hc j (.int .u8 (l[j].toNat : Nat)) (by simp [bv, hj])
      rw [hg, Addr.add_mid, Nat.zero_add]
      exact this
theorem make_bytes {z : Value} {c B : Nat} (ht : P.underlying t = some (.slice e)) (hi : infoOf P e = some (z, 1, 1)) (hc : c ≤ 1000000) (hB : B ≤ w.heap.size) :
    MakePost P w (fun g : Nat => .slice (some ⟨g, 0, none⟩) 0 c) (fun g u => OwnR u B e 1 (some ⟨g, 0, none⟩) 0 c []) (mkSl t c) := by
  unfold infoOf at hi
  obtain ⟨i, hi0, hi1⟩ := Option.bind_eq_some_iff.1 hi
  obtain ⟨z', hz, hi2⟩ := Option.map_eq_some_iff.1 hi1
  simp only [Prod.mk.injEq] at hi2
  obtain ⟨rfl, hsz, hby⟩ := hi2
  obtain ⟨w', h1, h2, h3⟩ := run_makeSlice_owned (P := P) w w.heap.size t e i z' 1 ht hi0 hz hsz .i64 .i64 c (by omega) (by rw [hby]; omega) (by simp only [maxLen]; omega) (Nat.le_refl _)
  refine ⟨w.heap.size, w', by simp only [mkSl, Sem.run_bind, h1, Result.andThen_ok, Sem.run_pure], ⟨h3.os, h3.tape, h3.output, h3.size, fun k hk => h3.block k hk (by simp)⟩, fun w'' k1 k2 => ?_⟩
  have ho : OwnR w' w.heap.size e 1 (some ⟨w.heap.size, 0, none⟩) 0 c [] := h2
  exact (ho.same fun b hb => k2 b (ho.lt b hb).1 (ho.lt b hb).2).rebase fun b hb => Nat.le_trans hB (ho.lt b hb).1
end
/-! The digits. -/
def hexC (n : Nat) : UInt8 := UInt8.ofNat (if n < 10 then 48 + n else 87 + n)
def hexT : List UInt8 := [48, 49, 50, 51, 52, 53, 54, 55, 56, 57, 97, 98, 99, 100, 101, 102]
theorem hexT_at : ∀ n, n < 16 → hexT[n]? = some (hexC n) := by decide
def enc2 (b : UInt8) : List UInt8 := [hexC (b.toNat / 16), hexC (b.toNat % 16)]
def encL (l : List UInt8) : List UInt8 := l.flatMap enc2
theorem encL_len (l : List UInt8) : (encL l).length = 2 * l.length := by
  unfold encL
  induction l with
  | nil => rfl
  | cons b l ih => rw [List.flatMap_cons, List.length_append, ih, List.length_cons]; simp [enc2]; omega
theorem encL_succ {l : List UInt8} {k : Nat} {b : UInt8} (h : l[k]? = some b) : encL (l.take (k + 1)) = encL (l.take k) ++ enc2 b := by
  rw [List.take_add_one, h]
  simp [encL]
theorem u8_shr (b : UInt8) : ((b.toNat : Nat) : Int).fdiv (2 ^ 4) = ((b.toNat / 16 : Nat) : Int) := by
  rw [Int.fdiv_eq_ediv_of_nonneg _ (by decide)]; omega
theorem u8_and (b : UInt8) : bits .and .u8 ((b.toNat : Nat) : Int) 15 = ((b.toNat % 16 : Nat) : Int) := by
  have h : ∀ n : Fin 256, bits .and .u8 ((n.val : Nat) : Int) 15 = ((n.val % 16 : Nat) : Int) := by decide +kernel
  exact h ⟨b.toNat, by have := b.toNat_lt; omega⟩
section
variable {w : World} {A : Option Addr} {n c : Nat} {bs : List UInt8}
set_option maxRecDepth 100000 in
set_option maxHeartbeats 1000000 in
theorem xencode_m (hb : BytesAt w A n bs) (hn : n ≤ 1000) : Calls Try.prog 28 #[.slice A n c] w (CallPost w (fun _ : Unit => strOf (encL bs)) fun _ _ => True) := by
  refine Good.enter Try.func28 rfl ?_
  refine Good.run (by kernel_rfl) (stop := 3) 1000 _ ?_
  refine Good.slot 8 (.int .i64 (IntKind.i64.wrap (2 * (n : Int)))) (.int .i64 ((2 * n : Nat) : Int)) (by kernel_rfl) (by rw [IntWalk.i64_in _ (by omega)]; rfl) ?_
  refine Good.make (mkSl 45 (2 * n : Nat)) (fun g : Nat => .slice (some ⟨g, 0, none⟩) 0 (2 * n)) (fun g u => OwnR u w.heap.size 5 1 (some ⟨g, 0, none⟩) 0 (2 * n) []) (by kernel_rfl) (fun w1 hw h => make_bytes (z := .int .u8 0) (by kernel_rfl) (by kernel_rfl) (by omega) hw.size) (fun y => ?_)
  refine Good.run (by kernel_rfl) (stop := 1000) 1000 _ ?_
  refine Good.loop (ι := {q : Nat × (Option Addr × Nat) // q.1 ≤ n}) 28 (fun q => ⟨[(0, .v (.slice A n c)), (3, .v (.slice q.1.2.1 (2 * q.1.1) q.1.2.2)), (10, .v (.slice A n c)), (11, .v (.int .i64 n)), (12, .v (.int .i64 q.1.1))], []⟩) (fun q u => OwnR u w.heap.size 5 1 q.1.2.1 (2 * q.1.1) q.1.2.2 (bv (encL (bs.take q.1.1)))) (fun q => n - q.1.1) (⟨(0, some ⟨y, 0, none⟩, 2 * n), Nat.zero_le _⟩) (by kernel_rfl) (fun _ => by kernel_rfl) ⟨by kernel_rfl, by kernel_rfl, by kernel_rfl⟩ (fun u h => h.2) ?_
  rintro ⟨⟨k, y, yc⟩, hk⟩ gg
  by_cases hlt : k < n
  ·
    refine Good.run (by kernel_rfl) (stop := 1000) 1000 _ ?_
    refine Good.condr (decide ((k : Int) < (n : Int))) true (by kernel_rfl) (by simp; omega) ?_
    refine Good.run (by kernel_rfl) (stop := 1000) 1000 _ ?_
    obtain ⟨b, hbk⟩ : ∃ b, bs[k]? = some b := ⟨_, List.getElem?_eq_getElem (by rw [hb.1]; exact hlt)⟩
    obtain ⟨ad, hA, hcell⟩ := hb.2 k b hbk
    have h16 : b.toNat / 16 < 16 := by have := b.toNat_lt; omega
    have h15 : b.toNat % 16 < 16 := by omega
    refine Good.ask (idxS 45 (.slice A n c) k) (.pointer (some (ad.add k))) (by kernel_rfl) (fun w1 hw h => by rw [hA]; exact run_idxS (elem := 5) (by kernel_rfl) (by kernel_rfl) hlt) ?_
    refine Good.run (by kernel_rfl) (stop := 1000) 1000 _ ?_
    refine Good.ask (ldS 5 (ad.add k)) (.int .u8 b.toNat) (by kernel_rfl) (fun w1 hw h => run_ldS (by kernel_rfl) (keepc hw hcell)) ?_
    refine Good.run (by kernel_rfl) (stop := 3) 1000 _ ?_
    refine Good.run (by kernel_rfl) (stop := 3) 1000 _ ?_
    refine Good.slot 18 (.int .u8 (((b.toNat : Nat) : Int).fdiv (2 ^ 4))) (.int .u8 ((b.toNat / 16 : Nat) : Int)) (by kernel_rfl) (by rw [u8_shr]) ?_
    refine Good.askAt 3 (ixK 9 (strOf hexT) .u8 (b.toNat / 16 : Nat)) (.int .u8 (hexC (b.toNat / 16)).toNat) (by kernel_rfl) (fun w1 hw h => run_ixK (by kernel_rfl) (hexT_at _ h16)) ?_
    refine Good.run (by kernel_rfl) (stop := 6) 1000 _ ?_
    refine Good.slot 21 (.int .u8 (bits .and .u8 ((b.toNat : Nat) : Int) 15)) (.int .u8 ((b.toNat % 16 : Nat) : Int)) (by kernel_rfl) (by rw [u8_and]) ?_
    refine Good.askAt 6 (ixK 9 (strOf hexT) .u8 (b.toNat % 16 : Nat)) (.int .u8 (hexC (b.toNat % 16)).toNat) (by kernel_rfl) (fun w1 hw h => run_ixK (by kernel_rfl) (hexT_at _ h15)) ?_
    refine Good.run (by kernel_rfl) (stop := 7) 1000 _ ?_
    refine Good.make (litS 45 2 #[(0, .int .u8 (hexC (b.toNat / 16)).toNat), (1, .int .u8 (hexC (b.toNat % 16)).toNat)]) (litV 2) (litG 5 #[.int .u8 (hexC (b.toNat / 16)).toNat, .int .u8 (hexC (b.toNat % 16)).toNat]) (by kernel_rfl) (fun w1 hw h => make_lit (by kernel_rfl)) (fun gb => ?_)
    refine Good.run (by kernel_rfl) (stop := 8) 1000 _ ?_
    refine Good.mutAny (L := bl y) (val := fun (z : Option Addr × Nat) => .slice z.1 (2 * k + 2) z.2) (Φ' := fun (z : Option Addr × Nat) v => OwnR v w.heap.size 5 1 z.1 (2 * k + 2) z.2 (bv (encL (bs.take (k + 1))))) (G := fun (z : Option Addr × Nat) v => OwnR v w.heap.size 5 1 z.1 (2 * k + 2) z.2 (bv (encL (bs.take (k + 1))))) (appS 45 45 (.slice y (2 * k) yc) (litV 2 gb)) (fun w1 hw h => by have ho : OwnR w1 w.heap.size 5 1 y (2 * k) yc (bv (encL (bs.take k))) := h.1; have ha := appendR_m (P := Try.prog) (s := 1) (z := .int .u8 0) (bytes := 1) (m := 2) (cc := 2) (t := 45) (elem := 5) (by kernel_rfl) (by kernel_rfl) rfl (by decide) ho hw.size (litG_reads (n := 2) h.2 rfl) (by intro v hv; simp at hv; rcases hv with rfl | rfl <;> rfl) (by omega) (by decide); have e : bv (encL (bs.take (k + 1))) = bv (encL (bs.take k)) ++ [.int .u8 (hexC (b.toNat / 16)).toNat, .int .u8 (hexC (b.toNat % 16)).toNat] := by { rw [encL_succ hbk]; simp [bv, enc2] }; rw [e]; exact ha) (fun w1 h => fun b hb => ⟨(h.1.lt b hb).1, (h.1.blk b hb).2⟩) (fun z wa w1 e1 e2 h hG => hG) (by kernel_rfl) (by kernel_rfl) (fun z => ?_)
    refine Good.run (by kernel_rfl) (stop := 1000) 1000 _ ?_
    refine Good.slot 12 (.int .i64 (IntKind.i64.wrap ((k : Int) + 1))) (.int .i64 ((k + 1 : Nat) : Int)) (by kernel_rfl) (by rw [wrap_succ hlt (by omega)]) ?_
    refine Good.slot 3 (.slice z.1 (2 * k + 2) z.2) (.slice z.1 (2 * (k + 1)) z.2) (by kernel_rfl) (rfl) ?_
    refine Good.next (⟨(k + 1, z), by show k + 1 ≤ n; omega⟩) (by kernel_rfl) (by show n - (k + 1) < n - k; omega) ⟨by kernel_rfl, by kernel_rfl, by kernel_rfl⟩ (fun _ h => h)
  ·
    refine Good.run (by kernel_rfl) (stop := 1000) 1000 _ ?_
    refine Good.condr (decide ((k : Int) < (n : Int))) false (by kernel_rfl) (by simp; omega) ?_
    refine Good.run (by kernel_rfl) (stop := 1000) 1000 _ ?_
    have hkn : k = n := by have : k ≤ n := hk; omega
    subst hkn
    have hfull : bs.take k = bs := List.take_of_length_le (by rw [hb.1]; exact Nat.le_refl _)
    refine Good.leave (by kernel_rfl) ?_
    refine Good.run (by kernel_rfl) (stop := 1) 1000 _ ?_
    refine Good.ask (cvS 45 9 (.slice y (2 * k) yc)) (strOf (encL bs)) (by kernel_rfl) (fun w1 hw h => by have h2 : OwnR w1 w.heap.size 5 1 y (2 * k) yc (bv (encL bs)) := by { rw [← hfull]; exact h }; have e : 2 * k = (encL bs).length := by { rw [encL_len, hb.1] }; rw [e] at h2 ⊢; exact run_cv (by kernel_rfl) (by kernel_rfl) (by kernel_rfl) h2) ?_
    refine Good.run (by kernel_rfl) (stop := 1000) 1000 _ ?_
    refine Good.ret (v := strOf (encL bs)) (by kernel_rfl) (fun w1 hw h => ⟨(), rfl, hw, fun _ _ _ => trivial⟩)
theorem u8_quo (b : UInt8) : IntKind.u8.wrap (((b.toNat : Nat) : Int).tdiv 16) = ((b.toNat / 16 : Nat) : Int) := by
  have h : ∀ n : Fin 256, IntKind.u8.wrap (((n.val : Nat) : Int).tdiv 16) = ((n.val / 16 : Nat) : Int) := by decide +kernel
  exact h ⟨b.toNat, by have := b.toNat_lt; omega⟩
theorem u8_rem (b : UInt8) : ((b.toNat : Nat) : Int).tmod 16 = ((b.toNat % 16 : Nat) : Int) := by
  have h : ∀ n : Fin 256, ((n.val : Nat) : Int).tmod 16 = ((n.val % 16 : Nat) : Int) := by decide +kernel
  exact h ⟨b.toNat, by have := b.toNat_lt; omega⟩
theorem make_nil {P : Program} {t e : TypeId} {B : Nat} (hl : litOf P t 0 #[] = some (e, #[])) (hB : B ≤ w.heap.size) : MakePost P w (litV 0) (fun g u => OwnR u B e 1 (some ⟨g, 0, none⟩) 0 0 []) (litS t 0 #[]) := by
  obtain ⟨x, w', h1, h2, h3⟩ := (make_lit hl).fresh (fun g => [g]) (fun g u hg b hb => by simp at hb; subst hb; exact ⟨_, _, _, hg⟩)
  exact ⟨x, w', h1, h2, fun w'' k1 k2 => by have := h3 w'' k1 k2; exact OwnR.lit this.1 rfl (Nat.le_trans hB (this.2 x (by simp))) (by decide)⟩
set_option maxRecDepth 100000 in
set_option maxHeartbeats 1000000 in
theorem rencode_m (hb : BytesAt w A n bs) (hn : n ≤ 1000) : Calls Try.prog 29 #[.slice A n c] w (CallPost w (fun _ : Unit => strOf (encL bs)) fun _ _ => True) := by
  refine Good.enter Try.func29 rfl ?_
  refine Good.run (by kernel_rfl) (stop := 1000) 1000 _ ?_
  refine Good.make (litS 45 0 #[]) (litV 0) (fun g u => OwnR u w.heap.size 5 1 (some ⟨g, 0, none⟩) 0 0 []) (by kernel_rfl) (fun w1 hw h => make_nil (by kernel_rfl) hw.size) (fun y => ?_)
  refine Good.run (by kernel_rfl) (stop := 1000) 1000 _ ?_
  refine Good.loop (ι := {q : Nat × (Option Addr × Nat) // q.1 ≤ n}) 29 (fun q => ⟨[(0, .v (.slice A n c)), (3, .v (.slice q.1.2.1 (2 * q.1.1) q.1.2.2)), (4, .v (.int .i64 q.1.1))], []⟩) (fun q u => OwnR u w.heap.size 5 1 q.1.2.1 (2 * q.1.1) q.1.2.2 (bv (encL (bs.take q.1.1)))) (fun q => n - q.1.1) (⟨(0, some ⟨y, 0, none⟩, 0), Nat.zero_le _⟩) (by kernel_rfl) (fun _ => by kernel_rfl) ⟨by kernel_rfl, by kernel_rfl, by kernel_rfl⟩ (fun u h => h.2) ?_
  rintro ⟨⟨k, y, yc⟩, hk⟩ gg
  by_cases hlt : k < n
  ·
    refine Good.run (by kernel_rfl) (stop := 1000) 1000 _ ?_
    refine Good.condr (decide ((k : Int) < (n : Int))) true (by kernel_rfl) (by simp; omega) ?_
    refine Good.run (by kernel_rfl) (stop := 1000) 1000 _ ?_
    obtain ⟨b, hbk⟩ : ∃ b, bs[k]? = some b := ⟨_, List.getElem?_eq_getElem (by rw [hb.1]; exact hlt)⟩
    obtain ⟨ad, hA, hcell⟩ := hb.2 k b hbk
    have h16 : b.toNat / 16 < 16 := by have := b.toNat_lt; omega
    have h15 : b.toNat % 16 < 16 := by omega
    refine Good.askAt 3 (idxS 45 (.slice A n c) k) (.pointer (some (ad.add k))) (by kernel_rfl) (fun w1 hw h => by rw [hA]; exact run_idxS (elem := 5) (by kernel_rfl) (by kernel_rfl) hlt) ?_
    refine Good.run (by kernel_rfl) (stop := 1000) 1000 _ ?_
    refine Good.askAt 4 (ldS 5 (ad.add k)) (.int .u8 b.toNat) (by kernel_rfl) (fun w1 hw h => run_ldS (by kernel_rfl) (keepc hw hcell)) ?_
    refine Good.run (by kernel_rfl) (stop := 6) 1000 _ ?_
    refine Good.slot 17 (.int .u8 (IntKind.u8.wrap (((b.toNat : Nat) : Int).tdiv 16))) (.int .u8 ((b.toNat / 16 : Nat) : Int)) (by kernel_rfl) (by rw [u8_quo]) ?_
    refine Good.askAt 6 (ixK 9 (strOf hexT) .u8 (b.toNat / 16 : Nat)) (.int .u8 (hexC (b.toNat / 16)).toNat) (by kernel_rfl) (fun w1 hw h => run_ixK (by kernel_rfl) (hexT_at _ h16)) ?_
    refine Good.run (by kernel_rfl) (stop := 9) 1000 _ ?_
    refine Good.askAt 9 (idxS 45 (.slice A n c) k) (.pointer (some (ad.add k))) (by kernel_rfl) (fun w1 hw h => by rw [hA]; exact run_idxS (elem := 5) (by kernel_rfl) (by kernel_rfl) hlt) ?_
    refine Good.run (by kernel_rfl) (stop := 1000) 1000 _ ?_
    refine Good.askAt 10 (ldS 5 (ad.add k)) (.int .u8 b.toNat) (by kernel_rfl) (fun w1 hw h => run_ldS (by kernel_rfl) (keepc hw hcell)) ?_
    refine Good.run (by kernel_rfl) (stop := 12) 1000 _ ?_
    refine Good.slot 23 (.int .u8 (((b.toNat : Nat) : Int).tmod 16)) (.int .u8 ((b.toNat % 16 : Nat) : Int)) (by kernel_rfl) (by rw [u8_rem]) ?_
    refine Good.askAt 12 (ixK 9 (strOf hexT) .u8 (b.toNat % 16 : Nat)) (.int .u8 (hexC (b.toNat % 16)).toNat) (by kernel_rfl) (fun w1 hw h => run_ixK (by kernel_rfl) (hexT_at _ h15)) ?_
    refine Good.run (by kernel_rfl) (stop := 13) 1000 _ ?_
    refine Good.make (litS 45 2 #[(0, .int .u8 (hexC (b.toNat / 16)).toNat), (1, .int .u8 (hexC (b.toNat % 16)).toNat)]) (litV 2) (litG 5 #[.int .u8 (hexC (b.toNat / 16)).toNat, .int .u8 (hexC (b.toNat % 16)).toNat]) (by kernel_rfl) (fun w1 hw h => make_lit (by kernel_rfl)) (fun gb => ?_)
    refine Good.run (by kernel_rfl) (stop := 14) 1000 _ ?_
    refine Good.mutAny (L := bl y) (val := fun (z : Option Addr × Nat) => .slice z.1 (2 * k + 2) z.2) (Φ' := fun (z : Option Addr × Nat) v => OwnR v w.heap.size 5 1 z.1 (2 * k + 2) z.2 (bv (encL (bs.take (k + 1))))) (G := fun (z : Option Addr × Nat) v => OwnR v w.heap.size 5 1 z.1 (2 * k + 2) z.2 (bv (encL (bs.take (k + 1))))) (appS 45 45 (.slice y (2 * k) yc) (litV 2 gb)) (fun w1 hw h => by have ho : OwnR w1 w.heap.size 5 1 y (2 * k) yc (bv (encL (bs.take k))) := h.1; have ha := appendR_m (P := Try.prog) (s := 1) (z := .int .u8 0) (bytes := 1) (m := 2) (cc := 2) (t := 45) (elem := 5) (by kernel_rfl) (by kernel_rfl) rfl (by decide) ho hw.size (litG_reads (n := 2) h.2 rfl) (by intro v hv; simp at hv; rcases hv with rfl | rfl <;> rfl) (by omega) (by decide); have e : bv (encL (bs.take (k + 1))) = bv (encL (bs.take k)) ++ [.int .u8 (hexC (b.toNat / 16)).toNat, .int .u8 (hexC (b.toNat % 16)).toNat] := by { rw [encL_succ hbk]; simp [bv, enc2] }; rw [e]; exact ha) (fun w1 h => fun b hb => ⟨(h.1.lt b hb).1, (h.1.blk b hb).2⟩) (fun z wa w1 e1 e2 h hG => hG) (by kernel_rfl) (by kernel_rfl) (fun z => ?_)
    refine Good.run (by kernel_rfl) (stop := 1000) 1000 _ ?_
    refine Good.slot 4 (.int .i64 (IntKind.i64.wrap ((k : Int) + 1))) (.int .i64 ((k + 1 : Nat) : Int)) (by kernel_rfl) (by rw [wrap_succ hlt (by omega)]) ?_
    refine Good.slot 3 (.slice z.1 (2 * k + 2) z.2) (.slice z.1 (2 * (k + 1)) z.2) (by kernel_rfl) (rfl) ?_
    refine Good.next (⟨(k + 1, z), by show k + 1 ≤ n; omega⟩) (by kernel_rfl) (by show n - (k + 1) < n - k; omega) ⟨by kernel_rfl, by kernel_rfl, by kernel_rfl⟩ (fun _ h => h)
  ·
    refine Good.run (by kernel_rfl) (stop := 1000) 1000 _ ?_
    refine Good.condr (decide ((k : Int) < (n : Int))) false (by kernel_rfl) (by simp; omega) ?_
    refine Good.run (by kernel_rfl) (stop := 1000) 1000 _ ?_
    have hkn : k = n := by have : k ≤ n := hk; omega
    subst hkn
    have hfull : bs.take k = bs := List.take_of_length_le (by rw [hb.1]; exact Nat.le_refl _)
    refine Good.leave (by kernel_rfl) ?_
    refine Good.run (by kernel_rfl) (stop := 1) 1000 _ ?_
    refine Good.ask (cvS 45 9 (.slice y (2 * k) yc)) (strOf (encL bs)) (by kernel_rfl) (fun w1 hw h => by have h2 : OwnR w1 w.heap.size 5 1 y (2 * k) yc (bv (encL bs)) := by { rw [← hfull]; exact h }; have e : 2 * k = (encL bs).length := by { rw [encL_len, hb.1] }; rw [e] at h2 ⊢; exact run_cv (by kernel_rfl) (by kernel_rfl) (by kernel_rfl) h2) ?_
    refine Good.run (by kernel_rfl) (stop := 1000) 1000 _ ?_
    refine Good.ret (v := strOf (encL bs)) (by kernel_rfl) (fun w1 hw h => ⟨(), rfl, hw, fun _ _ _ => trivial⟩)
end

theorem str_eq (a b : List UInt8) : ((⟨a.toArray⟩ : ByteArray).toList == (⟨b.toArray⟩ : ByteArray).toList) = (a == b) := by rw [mk_toList, mk_toList]
section
variable {P : Program} {w : World} {a b : List UInt8} {t : TypeId} {x y : Operand}
theorem run_eqS {B : Bool} (h : (a == b) = B) : (opS .eql t x y (strOf a) (strOf b)).run P w = .ok (.value (.bool B)) w := by
  have h1 : eqGuard .eql t x y (strOf a) (strOf b) = pure () := rfl
  have h2 : binOp .eql t (strOf a) (strOf b) = pure (.bool ((⟨a.toArray⟩ : ByteArray).toList == (⟨b.toArray⟩ : ByteArray).toList)) := by simp [binOp, Op.stringOp, strOf]
  simp only [opS, h1, h2, Sem.run_bind, Sem.run_pure, Result.andThen_ok, str_eq, h]
theorem run_neS {B : Bool} (h : (!(a == b)) = B) : (opS .neq t x y (strOf a) (strOf b)).run P w = .ok (.value (.bool B)) w := by
  have h1 : eqGuard .neq t x y (strOf a) (strOf b) = pure () := rfl
  have h2 : binOp .neq t (strOf a) (strOf b) = pure (.bool !((⟨a.toArray⟩ : ByteArray).toList == (⟨b.toArray⟩ : ByteArray).toList)) := by simp [binOp, Op.stringOp, strOf]
  simp only [opS, h1, h2, Sem.run_bind, Sem.run_pure, Result.andThen_ok, str_eq, h]
end
section
variable {w : World} {l : List UInt8} {K : Nat}
theorem xparseQ_v {e : Int} (he : pqE l = e) (hM : ML w) (hL : l.length < 4294967281) : Calls Try.prog 18 #[strOf l] w (CallPost w (fun r : RV => .tuple #[r.val, .int .i64 e]) fun r u => OutQ r e (pqV l) 125 u) := by subst he; exact xparseQ_m hM hL
theorem rparseQ_v {e : Int} (he : pqE l = e) (hL : l.length < 4294967281) : Calls Try.prog 19 #[strOf l] w (CallPost w (fun r : RV => .tuple #[r.val, .int .i64 e]) fun r u => OutQ r e (pqV l) 125 u) := by subst he; exact rparseQ_m hL
theorem xparseRange_v {lo hi e v : Int} (he : prgE l lo hi = e) (hv : prgV l lo hi = v) (hL : l.length ≤ 9223372036854775807) : Calls Try.prog 13 #[strOf l, .int .i64 lo, .int .i64 hi] w (CallPost w (fun _ : Unit => .tuple #[.int .i64 v, .int .i64 e]) fun _ _ => True) := by subst he hv; exact xparseRange_m hL
theorem xparseInt_v {e v : Int} (he : piE l = e) (hv : piV l = v) (hL : l.length ≤ 9223372036854775807) : Calls Try.prog 11 #[strOf l] w (CallPost w (fun _ : Unit => .tuple #[.int .i64 v, .int .i64 e]) fun _ _ => True) := by subst he hv; exact xparseInt_m hL
theorem bytesLit {t : TypeId} {g : Nat} (h : litG t #[.int .u8 0, .int .u8 175] g w) : BytesAt w (some ⟨g, 0, none⟩) 2 [0, 175] := by
  refine ⟨rfl, fun k b hb => ⟨_, rfl, ?_⟩⟩
  unfold litG at h
  rw [Addr.add_mid, Nat.zero_add]
  simp only [World.cell?, h, Option.isSome_none, Bool.false_eq_true, if_false]
  match k, hb with
  | 0, hb => simp at hb; subst hb; rfl
  | 1, hb => simp at hb; subst hb; rfl
theorem ex1 : pqE [50, 47, 52] = 3 := by decide +kernel
theorem ex2 : pqE [51, 47, 49] = 3 := by decide +kernel
theorem ex3 : pqE [45, 51, 47, 52] = 0 ∧ (pqV [45, 51, 47, 52]).num = -3 ∧ (pqV [45, 51, 47, 52]).den = 4 := by decide +kernel
theorem ex4 : prgE [45, 55] (-7) 0 = 0 ∧ prgV [45, 55] (-7) 0 = -7 := by decide +kernel
theorem ex5 : fmtI (-120) = [45, 49, 50, 48] ∧ fmtI (-3) = [45, 51] ∧ fmtI 4 = [52] := by decide +kernel
theorem ex6 : fmtQ (pqV [45, 51, 47, 52]) = [45, 51, 47, 52] := by
  unfold fmtQ
  rw [ex3.2.1, ex3.2.2, if_neg (by decide)]
  show fmtI (-3) ++ 47 :: fmtI 4 = _
  rw [ex5.2.1, ex5.2.2]
  rfl
theorem ex7 : encL [0, 175] = [48, 48, 97, 102] := by decide +kernel
set_option maxRecDepth 100000 in
set_option maxHeartbeats 1000000 in
theorem texample4_m (hM : ML w) : Calls Try.prog 10 #[] w (CallPost w (fun _ : Unit => .bool true) fun _ _ => True) := by
  refine Good.enter Try.func10 rfl ?_
  refine Good.run (by kernel_rfl) (stop := 1000) 1000 _ ?_
  refine Good.callv (fun w1 hw h => xparseQ_v ex1 (hM.below hw) (by decide)) (by kernel_rfl) (fun x => ?_)
  refine Good.run (by kernel_rfl) (stop := 1000) 1000 _ ?_
  refine Good.callv (fun w1 hw h => xparseQ_v ex2 (hM.below hw) (by decide)) (by kernel_rfl) (fun y => ?_)
  refine Good.run (by kernel_rfl) (stop := 1000) 1000 _ ?_
  refine Good.callv (fun w1 hw h => xparseQ_v ex3.1 (hM.below hw) (by decide)) (by kernel_rfl) (fun z => ?_)
  refine Good.run (by kernel_rfl) (stop := 0) 1000 _ ?_
  refine Good.make (litS (29) 1 #[(0, .int .u32 3)]) (litV 1) (litG 50 #[.int .u32 3]) (by kernel_rfl) (fun w1 hw h => make_lit (by kernel_rfl)) (fun g1 => ?_)
  refine Good.run (by kernel_rfl) (stop := 2) 1000 _ ?_
  refine Good.make (litS (29) 1 #[(0, .int .u32 4)]) (litV 1) (litG 50 #[.int .u32 4]) (by kernel_rfl) (fun w1 hw h => make_lit (by kernel_rfl)) (fun g2 => ?_)
  refine Good.run (by kernel_rfl) (stop := 1000) 1000 _ ?_
  refine Good.callv (fun w1 hw h => xparseRange_v ex4.1 ex4.2 (by decide)) (by kernel_rfl) (fun u => ?_)
  refine Good.run (by kernel_rfl) (stop := 1000) 1000 _ ?_
  refine Good.callv (fun w1 hw h => same4_nn (B := true) (b := ⟨lit1 true g1 3, lit1 false g2 4⟩) (K1 := 1) (h.1.1.1.2.n rfl) ⟨lit1_n h.1.1.2 (by decide) (by decide) (by rw [ex3.2.1]; rfl) (by rw [ex3.2.1]; rfl), lit1_n h.1.2 (by decide) (by decide) (by rw [ex3.2.2]; rfl) (by rw [ex3.2.2]; rfl)⟩ (decide_eq_true rfl)) (by kernel_rfl) (fun u => ?_)
  refine Good.run (by kernel_rfl) (stop := 1000) 1000 _ ?_
  refine Good.callv (fun w1 hw h => xformatQ_m (a := ⟨lit1 true g1 3, lit1 false g2 4⟩) (q := pqV [45, 51, 47, 52]) (K := 2) (IsQN.q (IsQN.mono (K := 1) ⟨lit1_n h.1.1.1.2 (by decide) (by decide) (by rw [ex3.2.1]; rfl) (by rw [ex3.2.1]; rfl), lit1_n h.1.1.2 (by decide) (by decide) (by rw [ex3.2.2]; rfl) (by rw [ex3.2.2]; rfl)⟩ (by decide))) (by decide)) (by kernel_rfl) (fun u => ?_)
  refine Good.run (by kernel_rfl) (stop := 18) 1000 _ ?_
  refine Good.ask (opS .eql 9 (.tmp 48) (.const (.string ⟨#[45, 51, 47, 52]⟩)) (strOf (fmtQ (pqV [45, 51, 47, 52]))) (strOf [45, 51, 47, 52])) (.bool true) (by kernel_rfl) (fun w1 hw h => run_eqS (by rw [ex6]; rfl)) ?_
  refine Good.run (by kernel_rfl) (stop := 29) 1000 _ ?_
  refine Good.make (litS (45) 2 #[(0, .int .u8 0), (1, .int .u8 175)]) (litV 2) (litG 5 #[.int .u8 0, .int .u8 175]) (by kernel_rfl) (fun w1 hw h => make_lit (by kernel_rfl)) (fun g3 => ?_)
  refine Good.run (by kernel_rfl) (stop := 1000) 1000 _ ?_
  refine Good.callv (fun w1 hw h => xencode_m (A := some ⟨g3, 0, none⟩) (n := 2) (c := 2) (bs := [0, 175]) (bytesLit h.2) (by decide)) (by kernel_rfl) (fun u => ?_)
  refine Good.run (by kernel_rfl) (stop := 31) 1000 _ ?_
  refine Good.ask (opS .eql 9 (.tmp 61) (.const (.string ⟨#[48, 48, 97, 102]⟩)) (strOf (encL [0, 175])) (strOf [48, 48, 97, 102])) (.bool true) (by kernel_rfl) (fun w1 hw h => run_eqS (by rw [ex7]; rfl)) ?_
  refine Good.run (by kernel_rfl) (stop := 1000) 1000 _ ?_
  refine Good.callv (fun w1 hw h => xformatInt_m (n := -120) (by decide) (by decide)) (by kernel_rfl) (fun u => ?_)
  refine Good.run (by kernel_rfl) (stop := 35) 1000 _ ?_
  refine Good.ask (opS .eql 9 (.tmp 65) (.const (.string ⟨#[45, 49, 50, 48]⟩)) (strOf (fmtI (-120))) (strOf [45, 49, 50, 48])) (.bool true) (by kernel_rfl) (fun w1 hw h => run_eqS (by rw [ex5.1]; rfl)) ?_
  refine Good.run (by kernel_rfl) (stop := 1000) 1000 _ ?_
  refine Good.ret (v := .bool true) (by kernel_rfl) (fun w1 hw h => ⟨(), rfl, hw, fun _ _ _ => trivial⟩)
set_option maxRecDepth 100000 in
set_option maxHeartbeats 1000000 in
theorem small4_v {a : RV} {B : Bool} (hB : smallB a = B) : Calls Try.prog 17 #[a.val] w (CallPost w (fun _ : Unit => .bool B) fun _ _ => True) := by
  subst hB
  by_cases h40 : a.a.n ≤ 40
  ·
    refine Good.enter Try.func17 rfl ?_
    refine Good.run (by kernel_rfl) (stop := 5) 1000 _ ?_
    refine Good.slot 7 (.bool (decide ((a.a.n : Int) ≤ 40))) (.bool true) (by kernel_rfl) (by rw [decide_eq_true (by omega)]) ?_
    refine Good.run (by kernel_rfl) (stop := 1000) 1000 _ ?_
    refine Good.ret (v := .bool (decide ((a.b.n : Int) ≤ 40))) (by kernel_rfl) (fun w1 hw h => ⟨(), by unfold smallB; rw [decide_eq_true h40, Bool.true_and, show decide ((a.b.n : Int) ≤ 40) = decide (a.b.n ≤ 40) from decide_eq_decide.2 (by omega)], hw, fun _ _ _ => trivial⟩)
  ·
    refine Good.enter Try.func17 rfl ?_
    refine Good.run (by kernel_rfl) (stop := 5) 1000 _ ?_
    refine Good.slot 7 (.bool (decide ((a.a.n : Int) ≤ 40))) (.bool false) (by kernel_rfl) (by rw [decide_eq_false (by omega)]) ?_
    refine Good.run (by kernel_rfl) (stop := 1000) 1000 _ ?_
    refine Good.ret (v := .bool false) (by kernel_rfl) (fun w1 hw h => ⟨(), by unfold smallB; rw [decide_eq_false h40]; rfl, hw, fun _ _ _ => trivial⟩)
set_option maxRecDepth 100000 in
set_option maxHeartbeats 1000000 in
theorem lawInts {n lo hi : Int} (hM : ML w) (h1 : -9223372036854775808 ≤ n) (h2 : n ≤ 9223372036854775807) : Calls Try.prog 3 #[.int .i64 n, strOf l, .int .i64 lo, .int .i64 hi] w (CallPost w (fun _ : Unit => .bool true) fun _ _ => True) := by
  by_cases hL : l.length ≤ 1100
  case neg =>
    refine Good.enter Try.func3 rfl ?_
    refine Good.run (by kernel_rfl) (stop := 1000) 1000 _ ?_
    refine Good.condr (decide ((l.length : Int) > 1100)) true (by kernel_rfl) (by simp; omega) ?_
    refine Good.run (by kernel_rfl) (stop := 1000) 1000 _ ?_
    refine Good.callv (fun w1 hw h => texample4_m (hM.below hw)) (by kernel_rfl) (fun u => ?_)
    refine Good.run (by kernel_rfl) (stop := 1000) 1000 _ ?_
    refine Good.ret (v := .bool true) (by kernel_rfl) (fun w1 hw h => ⟨(), rfl, hw, fun _ _ _ => trivial⟩)
  refine Good.enter Try.func3 rfl ?_
  refine Good.run (by kernel_rfl) (stop := 1000) 1000 _ ?_
  refine Good.condr (decide ((l.length : Int) > 1100)) false (by kernel_rfl) (by simp; omega) ?_
  refine Good.run (by kernel_rfl) (stop := 1000) 1000 _ ?_
  refine Good.callv (fun w1 hw h => xparseInt_m (l := l) (by omega)) (by kernel_rfl) (fun u => ?_)
  refine Good.run (by kernel_rfl) (stop := 1000) 1000 _ ?_
  refine Good.callv (fun w1 hw h => rparseInt_m (l := l) (by omega)) (by kernel_rfl) (fun u => ?_)
  refine Good.run (by kernel_rfl) (stop := 1000) 1000 _ ?_
  refine Good.callv (fun w1 hw h => xparseRange_m (l := l) (lo := lo) (hi := hi) (by omega)) (by kernel_rfl) (fun u => ?_)
  refine Good.run (by kernel_rfl) (stop := 1000) 1000 _ ?_
  refine Good.callv (fun w1 hw h => rparseRange_m (l := l) (lo := lo) (hi := hi) (by omega)) (by kernel_rfl) (fun u => ?_)
  refine Good.run (by kernel_rfl) (stop := 1000) 1000 _ ?_
  refine Good.callv (fun w1 hw h => xformatInt_m h1 h2) (by kernel_rfl) (fun u => ?_)
  refine Good.run (by kernel_rfl) (stop := 1000) 1000 _ ?_
  refine Good.callv (fun w1 hw h => rformatInt_m h1 h2) (by kernel_rfl) (fun u => ?_)
  refine Good.run (by kernel_rfl) (stop := 4) 1000 _ ?_
  refine Good.ask (opS .eql 9 (.tmp 46) (.tmp 48) (strOf (fmtI n)) (strOf (fmtI n))) (.bool true) (by kernel_rfl) (fun w1 hw h => run_eqS (by simp)) ?_
  refine Good.run (by kernel_rfl) (stop := 9) 1000 _ ?_
  refine Good.slot 53 (.bool (piV l == piV l)) (.bool true) (by kernel_rfl) (by simp) ?_
  refine Good.run (by kernel_rfl) (stop := 14) 1000 _ ?_
  refine Good.slot 58 (.bool (piE l == piE l)) (.bool true) (by kernel_rfl) (by simp) ?_
  refine Good.run (by kernel_rfl) (stop := 19) 1000 _ ?_
  refine Good.slot 63 (.bool (prgV l lo hi == prgV l lo hi)) (.bool true) (by kernel_rfl) (by simp) ?_
  refine Good.run (by kernel_rfl) (stop := 24) 1000 _ ?_
  refine Good.slot 68 (.bool (prgE l lo hi == prgE l lo hi)) (.bool true) (by kernel_rfl) (by simp) ?_
  refine Good.run (by kernel_rfl) (stop := 1000) 1000 _ ?_
  refine Good.callv (fun w1 hw h => texample4_m (hM.below hw)) (by kernel_rfl) (fun u => ?_)
  refine Good.run (by kernel_rfl) (stop := 1000) 1000 _ ?_
  refine Good.ret (v := .bool true) (by kernel_rfl) (fun w1 hw h => ⟨(), rfl, hw, fun _ _ _ => trivial⟩)
set_option maxRecDepth 100000 in
set_option maxHeartbeats 1000000 in
theorem lawIntRange {lo hi : Int} (hM : ML w) : Calls Try.prog 6 #[strOf l, .int .i64 lo, .int .i64 hi] w (CallPost w (fun _ : Unit => .bool true) fun _ _ => True) := by
  by_cases hL : l.length ≤ 1100
  case neg =>
    refine Good.enter Try.func6 rfl ?_
    refine Good.run (by kernel_rfl) (stop := 1000) 1000 _ ?_
    refine Good.condr (decide ((l.length : Int) > 1100)) true (by kernel_rfl) (by simp; omega) ?_
    refine Good.run (by kernel_rfl) (stop := 1000) 1000 _ ?_
    refine Good.callv (fun w1 hw h => texample4_m (hM.below hw)) (by kernel_rfl) (fun u => ?_)
    refine Good.run (by kernel_rfl) (stop := 1000) 1000 _ ?_
    refine Good.ret (v := .bool true) (by kernel_rfl) (fun w1 hw h => ⟨(), rfl, hw, fun _ _ _ => trivial⟩)
  by_cases hE : piE l = 0
  case neg =>
    have e1 : prgE l lo hi = piE l := if_neg hE
    have e2 : prgV l lo hi = 0 := by unfold prgV; rw [if_neg (by rw [e1]; exact hE)]
    refine Good.enter Try.func6 rfl ?_
    refine Good.run (by kernel_rfl) (stop := 1000) 1000 _ ?_
    refine Good.condr (decide ((l.length : Int) > 1100)) false (by kernel_rfl) (by simp; omega) ?_
    refine Good.run (by kernel_rfl) (stop := 1000) 1000 _ ?_
    refine Good.callv (fun w1 hw h => xparseInt_m (l := l) (by omega)) (by kernel_rfl) (fun u => ?_)
    refine Good.run (by kernel_rfl) (stop := 1000) 1000 _ ?_
    refine Good.callv (fun w1 hw h => xparseRange_v (l := l) (lo := lo) (hi := hi) e1 e2 (by omega)) (by kernel_rfl) (fun u => ?_)
    refine Good.run (by kernel_rfl) (stop := 1000) 1000 _ ?_
    refine Good.condr (piE l != 0) true (by kernel_rfl) (by simpa using hE) ?_
    refine Good.run (by kernel_rfl) (stop := 6) 1000 _ ?_
    refine Good.slot 34 (.bool (piE l == piE l)) (.bool true) (by kernel_rfl) (by simp) ?_
    refine Good.run (by kernel_rfl) (stop := 1000) 1000 _ ?_
    refine Good.callv (fun w1 hw h => texample4_m (hM.below hw)) (by kernel_rfl) (fun u => ?_)
    refine Good.run (by kernel_rfl) (stop := 1000) 1000 _ ?_
    refine Good.ret (v := .bool true) (by kernel_rfl) (fun w1 hw h => ⟨(), rfl, hw, fun _ _ _ => trivial⟩)
  by_cases hlo : piV l < lo
  · have e1 : prgE l lo hi = 6 := by unfold prgE; rw [if_pos hE, if_pos (.inl hlo)]
    have e2 : prgV l lo hi = 0 := by unfold prgV; rw [if_neg (by rw [e1]; decide)]
    refine Good.enter Try.func6 rfl ?_
    refine Good.run (by kernel_rfl) (stop := 1000) 1000 _ ?_
    refine Good.condr (decide ((l.length : Int) > 1100)) false (by kernel_rfl) (by simp; omega) ?_
    refine Good.run (by kernel_rfl) (stop := 1000) 1000 _ ?_
    refine Good.callv (fun w1 hw h => xparseInt_v (l := l) hE rfl (by omega)) (by kernel_rfl) (fun u => ?_)
    refine Good.run (by kernel_rfl) (stop := 1000) 1000 _ ?_
    refine Good.callv (fun w1 hw h => xparseRange_v (l := l) (lo := lo) (hi := hi) e1 e2 (by omega)) (by kernel_rfl) (fun u => ?_)
    refine Good.run (by kernel_rfl) (stop := 1000) 1000 _ ?_
    refine Good.cond false (by kernel_rfl) ?_
    refine Good.run (by kernel_rfl) (stop := 3) 1000 _ ?_
    refine Good.slot 41 (.bool (decide (piV l < lo))) (.bool true) (by kernel_rfl) (by rw [decide_eq_true hlo]) ?_
    refine Good.run (by kernel_rfl) (stop := 1000) 1000 _ ?_
    refine Good.cond true (by kernel_rfl) ?_
    refine Good.run (by kernel_rfl) (stop := 1000) 1000 _ ?_
    refine Good.callv (fun w1 hw h => texample4_m (hM.below hw)) (by kernel_rfl) (fun u => ?_)
    refine Good.run (by kernel_rfl) (stop := 1000) 1000 _ ?_
    refine Good.ret (v := .bool true) (by kernel_rfl) (fun w1 hw h => ⟨(), rfl, hw, fun _ _ _ => trivial⟩)
  by_cases hhi : hi < piV l
  · have e1 : prgE l lo hi = 6 := by unfold prgE; rw [if_pos hE, if_pos (.inr hhi)]
    have e2 : prgV l lo hi = 0 := by unfold prgV; rw [if_neg (by rw [e1]; decide)]
    refine Good.enter Try.func6 rfl ?_
    refine Good.run (by kernel_rfl) (stop := 1000) 1000 _ ?_
    refine Good.condr (decide ((l.length : Int) > 1100)) false (by kernel_rfl) (by simp; omega) ?_
    refine Good.run (by kernel_rfl) (stop := 1000) 1000 _ ?_
    refine Good.callv (fun w1 hw h => xparseInt_v (l := l) hE rfl (by omega)) (by kernel_rfl) (fun u => ?_)
    refine Good.run (by kernel_rfl) (stop := 1000) 1000 _ ?_
    refine Good.callv (fun w1 hw h => xparseRange_v (l := l) (lo := lo) (hi := hi) e1 e2 (by omega)) (by kernel_rfl) (fun u => ?_)
    refine Good.run (by kernel_rfl) (stop := 1000) 1000 _ ?_
    refine Good.cond false (by kernel_rfl) ?_
    refine Good.run (by kernel_rfl) (stop := 3) 1000 _ ?_
    refine Good.slot 41 (.bool (decide (piV l < lo))) (.bool false) (by kernel_rfl) (by rw [decide_eq_false hlo]) ?_
    refine Good.run (by kernel_rfl) (stop := 1000) 1000 _ ?_
    refine Good.condr (decide (piV l > hi)) true (by kernel_rfl) (decide_eq_true hhi) ?_
    refine Good.run (by kernel_rfl) (stop := 1000) 1000 _ ?_
    refine Good.callv (fun w1 hw h => texample4_m (hM.below hw)) (by kernel_rfl) (fun u => ?_)
    refine Good.run (by kernel_rfl) (stop := 1000) 1000 _ ?_
    refine Good.ret (v := .bool true) (by kernel_rfl) (fun w1 hw h => ⟨(), rfl, hw, fun _ _ _ => trivial⟩)
  · have e1 : prgE l lo hi = 0 := by unfold prgE; rw [if_pos hE, if_neg (by omega)]
    have e2 : prgV l lo hi = piV l := by unfold prgV; rw [if_pos e1]
    refine Good.enter Try.func6 rfl ?_
    refine Good.run (by kernel_rfl) (stop := 1000) 1000 _ ?_
    refine Good.condr (decide ((l.length : Int) > 1100)) false (by kernel_rfl) (by simp; omega) ?_
    refine Good.run (by kernel_rfl) (stop := 1000) 1000 _ ?_
    refine Good.callv (fun w1 hw h => xparseInt_v (l := l) hE rfl (by omega)) (by kernel_rfl) (fun u => ?_)
    refine Good.run (by kernel_rfl) (stop := 1000) 1000 _ ?_
    refine Good.callv (fun w1 hw h => xparseRange_v (l := l) (lo := lo) (hi := hi) e1 e2 (by omega)) (by kernel_rfl) (fun u => ?_)
    refine Good.run (by kernel_rfl) (stop := 1000) 1000 _ ?_
    refine Good.cond false (by kernel_rfl) ?_
    refine Good.run (by kernel_rfl) (stop := 3) 1000 _ ?_
    refine Good.slot 41 (.bool (decide (piV l < lo))) (.bool false) (by kernel_rfl) (by rw [decide_eq_false hlo]) ?_
    refine Good.run (by kernel_rfl) (stop := 1000) 1000 _ ?_
    refine Good.condr (decide (piV l > hi)) false (by kernel_rfl) (decide_eq_false hhi) ?_
    refine Good.run (by kernel_rfl) (stop := 3) 1000 _ ?_
    refine Good.slot 58 (.bool (piV l == piV l)) (.bool true) (by kernel_rfl) (by simp) ?_
    refine Good.run (by kernel_rfl) (stop := 1000) 1000 _ ?_
    refine Good.callv (fun w1 hw h => texample4_m (hM.below hw)) (by kernel_rfl) (fun u => ?_)
    refine Good.run (by kernel_rfl) (stop := 1000) 1000 _ ?_
    refine Good.ret (v := .bool true) (by kernel_rfl) (fun w1 hw h => ⟨(), rfl, hw, fun _ _ _ => trivial⟩)
end

section
variable {w : World} {l : List UInt8} {K : Nat} {a b : RV} {q p : Rat}
set_option maxRecDepth 100000 in
set_option maxHeartbeats 1000000 in
theorem lawRationals (hM : ML w) (hs : smallB a = true → IsQ a q 40 w) : Calls Try.prog 4 #[a.val, strOf l] w (CallPost w (fun _ : Unit => .bool true) fun _ _ => True) := by
  cases hB : smallB a
  ·
    refine Good.enter Try.func4 rfl ?_
    refine Good.run (by kernel_rfl) (stop := 1000) 1000 _ ?_
    refine Good.callv (fun w1 hw h => small4_v hB) (by kernel_rfl) (fun u => ?_)
    refine Good.run (by kernel_rfl) (stop := 1000) 1000 _ ?_
    refine Good.cond true (by kernel_rfl) ?_
    refine Good.run (by kernel_rfl) (stop := 1000) 1000 _ ?_
    refine Good.callv (fun w1 hw h => texample4_m (hM.below hw)) (by kernel_rfl) (fun u => ?_)
    refine Good.run (by kernel_rfl) (stop := 1000) 1000 _ ?_
    refine Good.ret (v := .bool true) (by kernel_rfl) (fun w1 hw h => ⟨(), rfl, hw, fun _ _ _ => trivial⟩)
  have ha := hs hB
  by_cases hL : l.length ≤ 2100
  case neg =>
    refine Good.enter Try.func4 rfl ?_
    refine Good.run (by kernel_rfl) (stop := 1000) 1000 _ ?_
    refine Good.callv (fun w1 hw h => small4_v hB) (by kernel_rfl) (fun u => ?_)
    refine Good.run (by kernel_rfl) (stop := 1000) 1000 _ ?_
    refine Good.condr (decide ((l.length : Int) > 2100)) true (by kernel_rfl) (by simp; omega) ?_
    refine Good.run (by kernel_rfl) (stop := 1000) 1000 _ ?_
    refine Good.callv (fun w1 hw h => texample4_m (hM.below hw)) (by kernel_rfl) (fun u => ?_)
    refine Good.run (by kernel_rfl) (stop := 1000) 1000 _ ?_
    refine Good.ret (v := .bool true) (by kernel_rfl) (fun w1 hw h => ⟨(), rfl, hw, fun _ _ _ => trivial⟩)
  refine Good.enter Try.func4 rfl ?_
  refine Good.run (by kernel_rfl) (stop := 1000) 1000 _ ?_
  refine Good.callv (fun w1 hw h => small4_v hB) (by kernel_rfl) (fun u => ?_)
  refine Good.run (by kernel_rfl) (stop := 1000) 1000 _ ?_
  refine Good.condr (decide ((l.length : Int) > 2100)) false (by kernel_rfl) (by simp; omega) ?_
  refine Good.run (by kernel_rfl) (stop := 1000) 1000 _ ?_
  refine Good.callv (fun w1 hw h => xparseQ_m (l := l) (hM.below hw) (by omega)) (by kernel_rfl) (fun x => ?_)
  refine Good.run (by kernel_rfl) (stop := 1000) 1000 _ ?_
  refine Good.callv (fun w1 hw h => rparseQ_m (l := l) (by omega)) (by kernel_rfl) (fun y => ?_)
  refine Good.run (by kernel_rfl) (stop := 1000) 1000 _ ?_
  refine Good.callv (fun w1 hw h => xformatQ_m (ha.below hw) (by decide)) (by kernel_rfl) (fun u => ?_)
  refine Good.run (by kernel_rfl) (stop := 1000) 1000 _ ?_
  refine Good.callv (fun w1 hw h => rformatQ_m (ha.below hw) (by decide)) (by kernel_rfl) (fun u => ?_)
  refine Good.run (by kernel_rfl) (stop := 4) 1000 _ ?_
  refine Good.ask (opS .eql 9 (.tmp 29) (.tmp 31) (strOf (fmtQ q)) (strOf (fmtQ q))) (.bool true) (by kernel_rfl) (fun w1 hw h => run_eqS (by simp)) ?_
  refine Good.run (by kernel_rfl) (stop := 1000) 1000 _ ?_
  refine Good.callv (fun w1 hw h => sameQ_m h.1.1.1.2 h.1.1.2) (by kernel_rfl) (fun u => ?_)
  refine Good.run (by kernel_rfl) (stop := 14) 1000 _ ?_
  refine Good.slot 41 (.bool (pqE l == pqE l)) (.bool true) (by kernel_rfl) (by simp) ?_
  refine Good.run (by kernel_rfl) (stop := 1000) 1000 _ ?_
  refine Good.callv (fun w1 hw h => texample4_m (hM.below hw)) (by kernel_rfl) (fun u => ?_)
  refine Good.run (by kernel_rfl) (stop := 1000) 1000 _ ?_
  refine Good.ret (v := .bool true) (by kernel_rfl) (fun w1 hw h => ⟨(), rfl, hw, fun _ _ _ => trivial⟩)
end
/-! What the texts say. -/
theorem fmtI_no47 (x : Int) : ∀ b ∈ fmtI x, b ≠ 47 := by
  have h := decS_isD x.natAbs
  have h2 : ∀ b ∈ decS x.natAbs, b ≠ 47 := fun b hb e => by
    have := h b hb
    subst e
    revert this
    decide
  intro b hb
  unfold fmtI at hb
  split at hb
  · rcases List.mem_cons.1 hb with e | hb
    · subst e; decide
    · exact h2 b hb
  · exact h2 b hb
theorem cutL_app : ∀ {x : List UInt8} (y : List UInt8), (∀ b ∈ x, b ≠ 47) → cutL (x ++ 47 :: y) = (x, y, true)
  | [], y, _ => by unfold cutL; simp
  | b :: x, y, h => by
    have ih := cutL_app (x := x) y fun c hc => h c (List.mem_cons_of_mem _ hc)
    rw [List.cons_append]
    unfold cutL
    rw [if_neg (h b (by simp)), ih]
theorem cutL_none' {x : List UInt8} (h : ∀ b ∈ x, b ≠ 47) : cutL x = (x, [], false) := cutL_no fun i hi e => h 47 (List.mem_of_getElem? e) rfl
theorem cutL_join {l : List UInt8} (h : (cutL l).2.2 = true) : l = (cutL l).1 ++ 47 :: (cutL l).2.1 := by
  induction l with
  | nil => cases h
  | cons b l ih =>
    unfold cutL at h ⊢
    split at h
    · rename_i hb; rw [if_pos hb]; simp [hb]
    · rename_i hb; rw [if_neg hb]; simp only [List.cons_append]; rw [← ih h]
theorem fmtQ_cut (q : Rat) : cutL (fmtQ q) = if q.den = 1 then (fmtI q.num, [], false) else (fmtI q.num, fmtI q.den, true) := by
  unfold fmtQ
  split
  · exact cutL_none' (fmtI_no47 _)
  · exact cutL_app _ (fmtI_no47 _)
theorem fmtQ_inj {p q : Rat} (h1 : p.num.natAbs < pw 40) (h2 : q.num.natAbs < pw 40) (h3 : p.den < pw 40) (h4 : q.den < pw 40) (h : fmtQ p = fmtQ q) : p = q := by
  have hc := fmtQ_cut p
  rw [h, fmtQ_cut q] at hc
  have key : ∀ {x y : Int}, x.natAbs < pw 40 → y.natAbs < pw 40 → fmtI x = fmtI y → x = y := fun hx hy => fmtI_inj (k := 40) (by decide) hx hy
  by_cases hq : q.den = 1 <;> by_cases hp : p.den = 1
  · rw [if_pos hq, if_pos hp] at hc
    injection hc with hc _
    exact Rat.ext (key h1 h2 hc.symm) (by rw [hq, hp])
  · rw [if_pos hq, if_neg hp] at hc
    injection hc with _ hc; injection hc with _ hc; cases hc
  · rw [if_neg hq, if_pos hp] at hc
    injection hc with _ hc; injection hc with _ hc; cases hc
  · rw [if_neg hq, if_neg hp] at hc
    injection hc with hc hc2
    injection hc2 with hc2 _
    have := key (x := (q.den : Int)) (y := (p.den : Int)) (by simpa using h4) (by simpa using h3) hc2
    exact Rat.ext (key h1 h2 hc.symm) (by omega)
theorem parse_num {x : Int} (h : x.natAbs < pw 40) : parseIE (fmtI x) = 0 ∧ parseIV (fmtI x) = x := parse_fmtI (by have := decS_len (n := x.natAbs) (k := 40) (by decide) h; omega)
/-- Reading what was written. -/
theorem read_fmtQ {q : Rat} (h1 : q.num.natAbs < pw 40) (h2 : q.den < pw 40) : pqE (fmtQ q) = 0 ∧ pqV (fmtQ q) = q := by
  obtain ⟨e1, v1⟩ := parse_num h1
  obtain ⟨e2, v2⟩ := parse_num (x := (q.den : Int)) (by simpa using h2)
  have hc := fmtQ_cut q
  have hq : Rat.divInt q.num q.den = q := Rat.num_divInt_den q
  have hd := q.den_nz
  by_cases h : q.den = 1
  · rw [if_pos h] at hc
    have n1 : pqN (fmtQ q) = q.num := by unfold pqN; rw [hc]; exact v1
    have d1 : pqD (fmtQ q) = (q.den : Int) := by unfold pqD; rw [hc, h]; rfl
    refine ⟨?_, by unfold pqV; rw [n1, d1, hq]⟩
    rw [pq_e4 (by rw [hc]; exact e1) (by rw [hc]; intro h; cases h), n1, d1, hq, if_pos ⟨rfl, rfl⟩]
  · rw [if_neg h] at hc
    have n1 : pqN (fmtQ q) = q.num := by unfold pqN; rw [hc]; exact v1
    have d1 : pqD (fmtQ q) = (q.den : Int) := by unfold pqD; rw [hc]; exact v2
    refine ⟨?_, by unfold pqV; rw [n1, d1, hq]⟩
    rw [pq_e4 (by rw [hc]; exact e1) (by intro _; rw [d1, hc]; exact ⟨e2, by omega⟩), n1, d1, hq, if_pos ⟨rfl, rfl⟩]
/-- Writing what was read. -/
theorem fmtQ_read {l : List UInt8} (h : pqE l = 0) : fmtQ (pqV l) = l := by
  have h1 : parseIE (cutL l).1 = 0 := by
    rcases Classical.em (parseIE (cutL l).1 = 0) with e | e
    · exact e
    · rw [pq_e1 e] at h; exact absurd h e
  cases hP : (cutL l).2.2
  · have hE := pq_e4 h1 (by rw [hP]; intro h; cases h)
    rw [h] at hE
    have hN : (Rat.divInt (pqN l) (pqD l)).num = pqN l ∧ ((Rat.divInt (pqN l) (pqD l)).den : Int) = pqD l := by
      rcases Classical.em ((Rat.divInt (pqN l) (pqD l)).num = pqN l ∧ ((Rat.divInt (pqN l) (pqD l)).den : Int) = pqD l) with e | e
      · exact e
      · rw [if_neg e] at hE; cases hE
    have hD : pqD l = 1 := by unfold pqD; rw [hP]; rfl
    unfold fmtQ pqV
    rw [if_pos (by have := hN.2; rw [hD] at this ⊢; omega), hN.1]
    show fmtI (parseIV (cutL l).1) = l
    rw [fmtI_parse h1, (cutL_none hP).1]
  · have h2 : parseIE (cutL l).2.1 = 0 := by
      rcases Classical.em (parseIE (cutL l).2.1 = 0) with e | e
      · exact e
      · rw [pq_e2 h1 hP e] at h; exact absurd h e
    have hD : pqD l = parseIV (cutL l).2.1 := by unfold pqD; rw [hP]; rfl
    have h3 : 2 ≤ pqD l := by
      rcases Classical.em (2 ≤ pqD l) with e | e
      · exact e
      · rw [pq_e3 h1 hP h2 (by omega)] at h; cases h
    have hE := pq_e4 h1 (fun _ => ⟨h2, h3⟩)
    rw [h] at hE
    have hN : (Rat.divInt (pqN l) (pqD l)).num = pqN l ∧ ((Rat.divInt (pqN l) (pqD l)).den : Int) = pqD l := by
      rcases Classical.em ((Rat.divInt (pqN l) (pqD l)).num = pqN l ∧ ((Rat.divInt (pqN l) (pqD l)).den : Int) = pqD l) with e | e
      · exact e
      · rw [if_neg e] at hE; cases hE
    unfold fmtQ pqV
    rw [if_neg (by have := hN.2; omega), hN.1, hN.2, hD]
    show fmtI (parseIV (cutL l).1) ++ 47 :: fmtI (parseIV (cutL l).2.1) = l
    rw [fmtI_parse h1, fmtI_parse h2]
    exact (cutL_join hP).symm
section
variable {w : World} {l : List UInt8} {K : Nat} {a b : RV} {q p : Rat}
theorem cmpQ_zero (p q : Rat) : (cmpQ p q == 0) = decide (p = q) := by
  unfold cmpQ
  by_cases h : p < q
  · rw [if_pos h, decide_eq_false (fun e => by rw [e] at h; exact Rat.lt_irrefl h)]; rfl
  · rw [if_neg h]
    by_cases e : p = q
    · rw [if_pos e, decide_eq_true e]; rfl
    · rw [if_neg e, decide_eq_false e]; rfl
theorem IsQ.lts (h : IsQ a q 40 w) : q.num.natAbs < pw 40 ∧ q.den < pw 40 := by
  obtain ⟨x, y, hx, hy, rfl⟩ := h
  by_cases h0 : y = 0
  · subst h0
    rw [Rat.divInt_zero]
    exact ⟨by have := pw_pos 40; simpa using this, Nat.lt_of_lt_of_le (show (0 : Rat).den < pw 2 by rw [pw_two]; decide) (pw_le (by decide))⟩
  · obtain ⟨h1, h2⟩ := divInt_bd hx.lt hy.lt h0
    exact ⟨h1, by simpa using h2⟩
theorem fmt_eq {m n : Int} (h1 : -9223372036854775808 ≤ m ∧ m ≤ 9223372036854775807) (h2 : -9223372036854775808 ≤ n ∧ n ≤ 9223372036854775807) : (fmtI m == fmtI n) = (m == n) := by
  by_cases h : m = n
  · rw [h]; simp
  · rw [beq_eq_false_iff_ne.2 h, beq_eq_false_iff_ne]
    exact fun e => h (fmtI_inj (k := 2) (by decide) (by rw [pw_two]; omega) (by rw [pw_two]; omega) e)
theorem fmtQ_eq (ha : IsQ a p 40 w) (hb : IsQ b q 40 w) : (fmtQ p == fmtQ q) = decide (p = q) := by
  by_cases h : p = q
  · rw [h, decide_eq_true rfl]; simp
  · rw [decide_eq_false h, beq_eq_false_iff_ne]
    exact fun e => h (fmtQ_inj ha.lts.1 hb.lts.1 ha.lts.2 hb.lts.2 e)
set_option maxRecDepth 100000 in
set_option maxHeartbeats 1000000 in
theorem lawInjective {m n : Int} (hM : ML w) (h1 : -9223372036854775808 ≤ m ∧ m ≤ 9223372036854775807) (h2 : -9223372036854775808 ≤ n ∧ n ≤ 9223372036854775807) (hs : smallB a = true → IsQ a p 40 w) (ht : smallB b = true → IsQ b q 40 w) : Calls Try.prog 7 #[.int .i64 m, .int .i64 n, a.val, b.val] w (CallPost w (fun _ : Unit => .bool true) fun _ _ => True) := by
  cases hA : smallB a
  ·
    refine Good.enter Try.func7 rfl ?_
    refine Good.run (by kernel_rfl) (stop := 1000) 1000 _ ?_
    refine Good.callv (fun w1 hw h => small4_v hA) (by kernel_rfl) (fun u => ?_)
    refine Good.run (by kernel_rfl) (stop := 1000) 1000 _ ?_
    refine Good.cond true (by kernel_rfl) ?_
    refine Good.run (by kernel_rfl) (stop := 1000) 1000 _ ?_
    refine Good.callv (fun w1 hw h => texample4_m (hM.below hw)) (by kernel_rfl) (fun u => ?_)
    refine Good.run (by kernel_rfl) (stop := 1000) 1000 _ ?_
    refine Good.ret (v := .bool true) (by kernel_rfl) (fun w1 hw h => ⟨(), rfl, hw, fun _ _ _ => trivial⟩)
  cases hB : smallB b
  ·
    refine Good.enter Try.func7 rfl ?_
    refine Good.run (by kernel_rfl) (stop := 1000) 1000 _ ?_
    refine Good.callv (fun w1 hw h => small4_v hA) (by kernel_rfl) (fun u => ?_)
    refine Good.run (by kernel_rfl) (stop := 1000) 1000 _ ?_
    refine Good.callv (fun w1 hw h => small4_v hB) (by kernel_rfl) (fun u => ?_)
    refine Good.run (by kernel_rfl) (stop := 1000) 1000 _ ?_
    refine Good.cond true (by kernel_rfl) ?_
    refine Good.run (by kernel_rfl) (stop := 1000) 1000 _ ?_
    refine Good.callv (fun w1 hw h => texample4_m (hM.below hw)) (by kernel_rfl) (fun u => ?_)
    refine Good.run (by kernel_rfl) (stop := 1000) 1000 _ ?_
    refine Good.ret (v := .bool true) (by kernel_rfl) (fun w1 hw h => ⟨(), rfl, hw, fun _ _ _ => trivial⟩)
  have ha := hs hA
  have hb := ht hB
  have hc : (decide (p = q) == (cmpQ p q == 0)) = true := by
    by_cases h : p = q
    · rw [cmpQ_zero, decide_eq_true h]; rfl
    · rw [cmpQ_zero, decide_eq_false h]; rfl
  refine Good.enter Try.func7 rfl ?_
  refine Good.run (by kernel_rfl) (stop := 1000) 1000 _ ?_
  refine Good.callv (fun w1 hw h => small4_v hA) (by kernel_rfl) (fun u => ?_)
  refine Good.run (by kernel_rfl) (stop := 1000) 1000 _ ?_
  refine Good.callv (fun w1 hw h => small4_v hB) (by kernel_rfl) (fun u => ?_)
  refine Good.run (by kernel_rfl) (stop := 1000) 1000 _ ?_
  refine Good.cond false (by kernel_rfl) ?_
  refine Good.run (by kernel_rfl) (stop := 1000) 1000 _ ?_
  refine Good.callv (fun w1 hw h => xformatInt_m h1.1 h1.2) (by kernel_rfl) (fun u => ?_)
  refine Good.run (by kernel_rfl) (stop := 1000) 1000 _ ?_
  refine Good.callv (fun w1 hw h => xformatInt_m h2.1 h2.2) (by kernel_rfl) (fun u => ?_)
  refine Good.run (by kernel_rfl) (stop := 4) 1000 _ ?_
  refine Good.askAt 4 (opS .eql 9 (.tmp 19) (.tmp 21) (strOf (fmtI m)) (strOf (fmtI n))) (.bool (m == n)) (by kernel_rfl) (fun w1 hw h => run_eqS (fmt_eq h1 h2)) ?_
  refine Good.run (by kernel_rfl) (stop := 9) 1000 _ ?_
  refine Good.slot 26 (.bool ((m == n) == (m == n))) (.bool true) (by kernel_rfl) (by simp) ?_
  refine Good.run (by kernel_rfl) (stop := 1000) 1000 _ ?_
  refine Good.callv (fun w1 hw h => xformatQ_m (ha.below hw) (by decide)) (by kernel_rfl) (fun u => ?_)
  refine Good.run (by kernel_rfl) (stop := 1000) 1000 _ ?_
  refine Good.callv (fun w1 hw h => xformatQ_m (hb.below hw) (by decide)) (by kernel_rfl) (fun u => ?_)
  refine Good.run (by kernel_rfl) (stop := 14) 1000 _ ?_
  refine Good.askAt 14 (opS .eql 9 (.tmp 29) (.tmp 31) (strOf (fmtQ p)) (strOf (fmtQ q))) (.bool (decide (p = q))) (by kernel_rfl) (fun w1 hw h => run_eqS (fmtQ_eq (ha.below hw) (hb.below hw))) ?_
  refine Good.run (by kernel_rfl) (stop := 1000) 1000 _ ?_
  refine Good.callv (fun w1 hw h => qcmp_m (ha.below hw) (hb.below hw) (by decide)) (by kernel_rfl) (fun u => ?_)
  refine Good.run (by kernel_rfl) (stop := 20) 1000 _ ?_
  refine Good.slot 37 (.bool (decide (p = q) == (cmpQ p q == 0))) (.bool true) (by kernel_rfl) (by rw [hc]) ?_
  refine Good.run (by kernel_rfl) (stop := 1000) 1000 _ ?_
  refine Good.callv (fun w1 hw h => texample4_m (hM.below hw)) (by kernel_rfl) (fun u => ?_)
  refine Good.run (by kernel_rfl) (stop := 1000) 1000 _ ?_
  refine Good.ret (v := .bool true) (by kernel_rfl) (fun w1 hw h => ⟨(), rfl, hw, fun _ _ _ => trivial⟩)
/-! The rows. -/
def Done (w : World) (e : Ending) (w' : World) : Prop := e = .returned (.bool true) ∧ Below w.heap.size w w'
theorem law_done {e : Ending} {w' : World} (h : CallPost w (fun _ : Unit => .bool true) (fun _ _ => True) e w') : Done w e w' := ⟨h.choose_spec.1, h.choose_spec.2.1⟩
theorem wf64 {z : Int} (h : (Lit.int .i64 z).wf = true) : -9223372036854775808 ≤ z ∧ z ≤ 9223372036854775807 := i64_wf h
def qOf (r : RV) : Rat := Rat.divInt (zi r.a.s (val r.a.l)) (zi r.b.s (val r.b.l))
theorem small_q {r : RV} (h : InR r w) (hs : smallB r = true) : IsQ r (qOf r) 40 w := by
  simp only [smallB, Bool.and_eq_true, decide_eq_true_eq] at hs
  exact ⟨_, _, ⟨h.1, rfl, hs.1⟩, ⟨h.2, rfl, hs.2⟩, rfl⟩
theorem rowInts {s : ByteArray} {n lo hi : Int} (hM : ML w) (h : (Lit.int .i64 n).wf = true) : Calls Try.prog 3 #[.int .i64 n, .string s, .int .i64 lo, .int .i64 hi] w (Done w) :=
  (lawInts (l := s.data.toList) hM (wf64 h).1 (wf64 h).2).mono fun _ _ h => law_done h
theorem rowIntRange {s : ByteArray} {lo hi : Int} (hM : ML w) : Calls Try.prog 6 #[.string s, .int .i64 lo, .int .i64 hi] w (Done w) :=
  (lawIntRange (l := s.data.toList) hM).mono fun _ _ h => law_done h
theorem rowRationals {s : ByteArray} {x : List Value} (hM : ML w) (h : Rd w shRat x) : Calls Try.prog 4 #[.agg x.toArray, .string s] w (Done w) := by
  obtain ⟨r, rfl, hr⟩ := rd_rat' h
  exact (lawRationals (l := s.data.toList) hM (small_q hr)).mono fun _ _ h => law_done h
theorem rowInjective {m n : Int} {x y : List Value} (hM : ML w) (h1 : (Lit.int .i64 m).wf = true) (h2 : (Lit.int .i64 n).wf = true) (h : Rd w shRat x) (k : Rd w shRat y) : Calls Try.prog 7 #[.int .i64 m, .int .i64 n, .agg x.toArray, .agg y.toArray] w (Done w) := by
  obtain ⟨r, rfl, hr⟩ := rd_rat' h
  obtain ⟨s, rfl, hs⟩ := rd_rat' k
  exact (lawInjective hM (wf64 h1) (wf64 h2) (small_q hr) (small_q hs)).mono fun _ _ h => law_done h
end

section
variable {w : World} {l : List UInt8} {K : Nat} {a b : RV} {q p : Rat}
theorem pw40 {n : Int} (h : -9223372036854775808 ≤ n ∧ n ≤ 9223372036854775807) : n.natAbs < pw 40 := Nat.lt_of_lt_of_le (show n.natAbs < pw 2 by rw [pw_two]; omega) (pw_le (by decide))
theorem pi_fmt {n : Int} (h : -9223372036854775808 ≤ n ∧ n ≤ 9223372036854775807) : piE (fmtI n) = 0 ∧ piV (fmtI n) = n := by
  obtain ⟨e, v⟩ := parse_num (pw40 h)
  obtain ⟨k1, k2, _⟩ := piE_good e (by rw [v]; exact decide_eq_true h)
  exact ⟨k1, by rw [k2, v]⟩
theorem fmt_pi (h : piE l = 0) : fmtI (piV l) = l ∧ -9223372036854775808 ≤ piV l ∧ piV l ≤ 9223372036854775807 := by
  have h1 : parseIE l = 0 := by
    rcases Classical.em (parseIE l = 0) with e | e
    · exact e
    · rw [(piE_bad e).1] at h; exact absurd h e
  cases hF : fitB (parseIV l)
  · rw [(piE_far h1 hF).1] at h; cases h
  · rw [(piE_good h1 hF).2.1]
    exact ⟨fmtI_parse h1, of_decide_eq_true hF⟩
theorem fmtQ_len (h : q.num.natAbs < pw 40 ∧ q.den < pw 40) : (fmtQ q).length ≤ 803 := by
  have h1 := fmtI_len (k := 40) (by decide) h.1
  have h2 := fmtI_len (x := (q.den : Int)) (k := 40) (by decide) (by simpa using h.2)
  unfold fmtQ
  split
  · omega
  · rw [List.length_append, List.length_cons]; omega
set_option maxRecDepth 100000 in
set_option maxHeartbeats 1000000 in
theorem lawRound {n : Int} (hM : ML w) (h1 : -9223372036854775808 ≤ n ∧ n ≤ 9223372036854775807) (hs : smallB a = true → IsQ a q 40 w) : Calls Try.prog 5 #[.int .i64 n, a.val, strOf l] w (CallPost w (fun _ : Unit => .bool true) fun _ _ => True) := by
  cases hB : smallB a
  ·
    refine Good.enter Try.func5 rfl ?_
    refine Good.run (by kernel_rfl) (stop := 1000) 1000 _ ?_
    refine Good.callv (fun w1 hw h => small4_v hB) (by kernel_rfl) (fun u => ?_)
    refine Good.run (by kernel_rfl) (stop := 1000) 1000 _ ?_
    refine Good.cond true (by kernel_rfl) ?_
    refine Good.run (by kernel_rfl) (stop := 1000) 1000 _ ?_
    refine Good.callv (fun w1 hw h => texample4_m (hM.below hw)) (by kernel_rfl) (fun u => ?_)
    refine Good.run (by kernel_rfl) (stop := 1000) 1000 _ ?_
    refine Good.ret (v := .bool true) (by kernel_rfl) (fun w1 hw h => ⟨(), rfl, hw, fun _ _ _ => trivial⟩)
  have ha := hs hB
  by_cases hL : l.length ≤ 2100
  case neg =>
    refine Good.enter Try.func5 rfl ?_
    refine Good.run (by kernel_rfl) (stop := 1000) 1000 _ ?_
    refine Good.callv (fun w1 hw h => small4_v hB) (by kernel_rfl) (fun u => ?_)
    refine Good.run (by kernel_rfl) (stop := 1000) 1000 _ ?_
    refine Good.condr (decide ((l.length : Int) > 2100)) true (by kernel_rfl) (by simp; omega) ?_
    refine Good.run (by kernel_rfl) (stop := 1000) 1000 _ ?_
    refine Good.callv (fun w1 hw h => texample4_m (hM.below hw)) (by kernel_rfl) (fun u => ?_)
    refine Good.run (by kernel_rfl) (stop := 1000) 1000 _ ?_
    refine Good.ret (v := .bool true) (by kernel_rfl) (fun w1 hw h => ⟨(), rfl, hw, fun _ _ _ => trivial⟩)
  obtain ⟨r1, r2⟩ := pi_fmt h1
  obtain ⟨r3, r4⟩ := read_fmtQ ha.lts.1 ha.lts.2
  have hlen := fmtQ_len ha.lts
  have hli := fmtI_len (x := n) (k := 2) (by decide) (by rw [pw_two]; omega)
  refine Good.enter Try.func5 rfl ?_
  refine Good.run (by kernel_rfl) (stop := 1000) 1000 _ ?_
  refine Good.callv (fun w1 hw h => small4_v hB) (by kernel_rfl) (fun u => ?_)
  refine Good.run (by kernel_rfl) (stop := 1000) 1000 _ ?_
  refine Good.condr (decide ((l.length : Int) > 2100)) false (by kernel_rfl) (by simp; omega) ?_
  refine Good.run (by kernel_rfl) (stop := 1000) 1000 _ ?_
  refine Good.callv (fun w1 hw h => xformatInt_m h1.1 h1.2) (by kernel_rfl) (fun u => ?_)
  refine Good.run (by kernel_rfl) (stop := 1000) 1000 _ ?_
  refine Good.callv (fun w1 hw h => xparseInt_v (l := fmtI n) r1 r2 (by omega)) (by kernel_rfl) (fun u => ?_)
  refine Good.run (by kernel_rfl) (stop := 1000) 1000 _ ?_
  refine Good.callv (fun w1 hw h => xformatQ_m (ha.below hw) (by decide)) (by kernel_rfl) (fun u => ?_)
  refine Good.run (by kernel_rfl) (stop := 1000) 1000 _ ?_
  refine Good.callv (fun w1 hw h => xparseQ_v (l := fmtQ q) r3 (hM.below hw) (by omega)) (by kernel_rfl) (fun r => ?_)
  refine Good.run (by kernel_rfl) (stop := 0) 1000 _ ?_
  refine Good.run (by kernel_rfl) (stop := 3) 1000 _ ?_
  refine Good.slot 38 (.bool (n != n)) (.bool false) (by kernel_rfl) (by simp) ?_
  refine Good.run (by kernel_rfl) (stop := 1000) 1000 _ ?_
  refine Good.callv (fun w1 hw h => qnormalize_m (ha.below hw) (by decide)) (by kernel_rfl) (fun m => ?_)
  refine Good.run (by kernel_rfl) (stop := 1000) 1000 _ ?_
  refine Good.callv (fun w1 hw h => same4_nn (B := true) ((h.1.2.n rfl).cast r4) h.2 (decide_eq_true rfl)) (by kernel_rfl) (fun u => ?_)
  refine Good.run (by kernel_rfl) (stop := 1000) 1000 _ ?_
  refine Good.cond false (by kernel_rfl) ?_
  refine Good.run (by kernel_rfl) (stop := 1000) 1000 _ ?_
  by_cases hE : piE l = 0
  · obtain ⟨f1, f2, f3⟩ := fmt_pi hE
    refine Good.callv (fun w1 hw h => xparseInt_v (l := l) hE rfl (by omega)) (by kernel_rfl) (fun u => ?_)
    refine Good.run (by kernel_rfl) (stop := 1000) 1000 _ ?_
    refine Good.callv (fun w1 hw h => xformatInt_m f2 f3) (by kernel_rfl) (fun u => ?_)
    refine Good.run (by kernel_rfl) (stop := 6) 1000 _ ?_
    refine Good.ask (opS .neq 9 (.tmp 63) (.tmp 64) (strOf (fmtI (piV l))) (strOf l)) (.bool false) (by kernel_rfl) (fun w1 hw h => run_neS (by rw [f1]; simp)) ?_
    refine Good.run (by kernel_rfl) (stop := 1000) 1000 _ ?_
    refine Good.cond false (by kernel_rfl) ?_
    refine Good.run (by kernel_rfl) (stop := 1000) 1000 _ ?_
    by_cases hQ : pqE l = 0
    ·
      refine Good.callv (fun w1 hw h => xparseQ_v (l := l) hQ (hM.below hw) (by omega)) (by kernel_rfl) (fun d => ?_)
      refine Good.run (by kernel_rfl) (stop := 1000) 1000 _ ?_
      refine Good.callv (fun w1 hw h => qisn_n (h.2.n rfl) (by decide)) (by kernel_rfl) (fun u => ?_)
      refine Good.run (by kernel_rfl) (stop := 1000) 1000 _ ?_
      refine Good.callv (fun w1 hw h => xformatQ_m (h.1.2.n rfl).q (by decide)) (by kernel_rfl) (fun u => ?_)
      refine Good.run (by kernel_rfl) (stop := 9) 1000 _ ?_
      refine Good.ask (opS .eql 9 (.tmp 79) (.tmp 80) (strOf (fmtQ (pqV l))) (strOf l)) (.bool true) (by kernel_rfl) (fun w1 hw h => run_eqS (by rw [fmtQ_read hQ]; simp)) ?_
      refine Good.run (by kernel_rfl) (stop := 1000) 1000 _ ?_
      refine Good.callv (fun w1 hw h => texample4_m (hM.below hw)) (by kernel_rfl) (fun u => ?_)
      refine Good.run (by kernel_rfl) (stop := 1000) 1000 _ ?_
      refine Good.ret (v := .bool true) (by kernel_rfl) (fun w1 hw h => ⟨(), rfl, hw, fun _ _ _ => trivial⟩)
    ·
      refine Good.callv (fun w1 hw h => xparseQ_m (l := l) (hM.below hw) (by omega)) (by kernel_rfl) (fun d => ?_)
      refine Good.run (by kernel_rfl) (stop := 0) 1000 _ ?_
      refine Good.run (by kernel_rfl) (stop := 2) 1000 _ ?_
      refine Good.slot 73 (.bool (pqE l != 0)) (.bool true) (by kernel_rfl) (by simpa using hQ) ?_
      refine Good.run (by kernel_rfl) (stop := 1000) 1000 _ ?_
      refine Good.callv (fun w1 hw h => texample4_m (hM.below hw)) (by kernel_rfl) (fun u => ?_)
      refine Good.run (by kernel_rfl) (stop := 1000) 1000 _ ?_
      refine Good.ret (v := .bool true) (by kernel_rfl) (fun w1 hw h => ⟨(), rfl, hw, fun _ _ _ => trivial⟩)
  ·
    refine Good.callv (fun w1 hw h => xparseInt_m (l := l) (by omega)) (by kernel_rfl) (fun u => ?_)
    refine Good.run (by kernel_rfl) (stop := 0) 1000 _ ?_
    refine Good.run (by kernel_rfl) (stop := 2) 1000 _ ?_
    refine Good.slot 60 (.bool (piE l == 0)) (.bool false) (by kernel_rfl) (by simpa using hE) ?_
    refine Good.run (by kernel_rfl) (stop := 1000) 1000 _ ?_
    refine Good.cond false (by kernel_rfl) ?_
    refine Good.run (by kernel_rfl) (stop := 1000) 1000 _ ?_
    by_cases hQ : pqE l = 0
    ·
      refine Good.callv (fun w1 hw h => xparseQ_v (l := l) hQ (hM.below hw) (by omega)) (by kernel_rfl) (fun d => ?_)
      refine Good.run (by kernel_rfl) (stop := 1000) 1000 _ ?_
      refine Good.callv (fun w1 hw h => qisn_n (h.2.n rfl) (by decide)) (by kernel_rfl) (fun u => ?_)
      refine Good.run (by kernel_rfl) (stop := 1000) 1000 _ ?_
      refine Good.callv (fun w1 hw h => xformatQ_m (h.1.2.n rfl).q (by decide)) (by kernel_rfl) (fun u => ?_)
      refine Good.run (by kernel_rfl) (stop := 9) 1000 _ ?_
      refine Good.ask (opS .eql 9 (.tmp 79) (.tmp 80) (strOf (fmtQ (pqV l))) (strOf l)) (.bool true) (by kernel_rfl) (fun w1 hw h => run_eqS (by rw [fmtQ_read hQ]; simp)) ?_
      refine Good.run (by kernel_rfl) (stop := 1000) 1000 _ ?_
      refine Good.callv (fun w1 hw h => texample4_m (hM.below hw)) (by kernel_rfl) (fun u => ?_)
      refine Good.run (by kernel_rfl) (stop := 1000) 1000 _ ?_
      refine Good.ret (v := .bool true) (by kernel_rfl) (fun w1 hw h => ⟨(), rfl, hw, fun _ _ _ => trivial⟩)
    ·
      refine Good.callv (fun w1 hw h => xparseQ_m (l := l) (hM.below hw) (by omega)) (by kernel_rfl) (fun d => ?_)
      refine Good.run (by kernel_rfl) (stop := 0) 1000 _ ?_
      refine Good.run (by kernel_rfl) (stop := 2) 1000 _ ?_
      refine Good.slot 73 (.bool (pqE l != 0)) (.bool true) (by kernel_rfl) (by simpa using hQ) ?_
      refine Good.run (by kernel_rfl) (stop := 1000) 1000 _ ?_
      refine Good.callv (fun w1 hw h => texample4_m (hM.below hw)) (by kernel_rfl) (fun u => ?_)
      refine Good.run (by kernel_rfl) (stop := 1000) 1000 _ ?_
      refine Good.ret (v := .bool true) (by kernel_rfl) (fun w1 hw h => ⟨(), rfl, hw, fun _ _ _ => trivial⟩)
theorem rowRound {s : ByteArray} {n : Int} {x : List Value} (hM : ML w) (h1 : (Lit.int .i64 n).wf = true) (h : Rd w shRat x) : Calls Try.prog 5 #[.int .i64 n, .agg x.toArray, .string s] w (Done w) := by
  obtain ⟨r, rfl, hr⟩ := rd_rat' h
  exact (lawRound (l := s.data.toList) hM (wf64 h1) (small_q hr)).mono fun _ _ h => law_done h
end

end Go.Proofs.Ytlpnjoenkohadaa
