/-
  Fractions: copies, and writing in place.
-/
import Derived.Test.YtjdcolaefhheaaaQL
namespace Go.Proofs.Ytjdcolaefhheaaa
set_option linter.unusedVariables false
set_option linter.unusedSimpArgs false
open Go.RowKit

def appS (t ty : TypeId) (x y : Value) : Sem Next := Builtin.append_ #[t, t] ty #[x, y] >>= fun v => pure (.value v)
/-- The blocks of a slice that has room. -/
def blks (A : Option Addr) (c : Nat) : List Nat := match A with | some p => if c = 0 then [] else [p.block] | none => []
theorem Own.blk {w : World} {B : Nat} {A : Option Addr} {n c : Nat} {l : List Nat} (h : Own w B A n c l) : ∀ b ∈ blks A c, B ≤ b ∧ ∃ cs ty own, w.heap[b]? = some (.cells cs ty own) := by
  intro b hb
  unfold blks at hb
  split at hb
  · split at hb
    · cases hb
    · rename_i p h0
      obtain ⟨g, cur, t, hA, hB, hh, _⟩ := h.own (by omega)
      injection hA with hA
      subst hA
      simp only [List.mem_singleton] at hb
      subst hb
      exact ⟨hB, _, _, _, hh⟩
  · cases hb
theorem Own.left {w wa : World} {B : Nat} {A : Option Addr} {n c : Nat} {l L : List Nat} (h : Own wa B A n c l) (e1 : wa.heap.size = w.heap.size) (e2 : ∀ b, b ∉ L → wa.heap[b]? = w.heap[b]?) (hd : ∀ b ∈ blks A c, b ∉ L) : Own w B A n c l := by
  have hkeep : ∀ p, A = some p → 0 < c → w.heap[p.block]? = wa.heap[p.block]? := fun p hp h0 => (e2 _ (hd _ (by unfold blks; rw [hp]; simp; omega))).symm
  refine ⟨⟨h.dig, h.len, h.le, h.cap, h.rd.1, fun h0 => ?_⟩, fun h0 => ?_⟩
  · obtain ⟨x, hA, hb, hc⟩ := h.rd.2 h0
    have hle := h.le
    refine ⟨x, hA, by rw [← e1]; exact hb, fun j u hu => ?_⟩
    have e : w.cell? (x.add j) = wa.cell? (x.add j) := World.cell?_of_block (by rw [block_of_add]; exact hkeep x hA (by omega))
    exact e.trans (hc j u hu)
  · obtain ⟨g, cur, t, hA, hB, hh, hs⟩ := h.own h0
    exact ⟨g, cur, t, hA, hB, (hkeep _ hA h0).trans hh, hs⟩
theorem make_nil {w : World} {B : Nat} (hB : B ≤ w.heap.size) : MakePost Try.prog w (litV 0) (fun g u => u.ownsRow B 53 1 (litV 0 g) 0 []) (litS 22 0 #[]) := by
  obtain ⟨x, w', hrun, hb, hG⟩ := MakePost.fresh (make_lit (P := Try.prog) (t := 22) (elem := 53) (len := 0) (parts := #[]) (cells := #[]) (w := w) (by kernel_rfl)) (fun g => [g]) (fun g u h b hb => by
    simp only [List.mem_singleton] at hb; subst hb; exact ⟨_, _, _, h⟩)
  refine ⟨x, w', hrun, hb, fun w'' h1 h2 => ?_⟩
  obtain ⟨h3, h4⟩ := hG w'' h1 h2
  exact ⟨rfl, .inr ⟨x, 0, #[], rfl, Nat.le_trans hB (h4 x (by simp)), h3, Nat.le_refl _, by unfold maxLen; omega, rfl, rfl⟩⟩
/-- Digits appended to an empty slice of the call's own. -/
theorem app_m {B g m c : Nat} {l : List Nat} {A : Option Addr} {w : World} (hown : w.ownsRow B 53 1 (litV 0 g) 0 []) (hx : In w A m c l) (hB : B ≤ w.heap.size) (hn : m ≤ 1000000) :
    MutRun Try.prog w [g] (fun x : (Option Addr × Nat) × Nat => .slice x.1.1 m x.1.2) (fun x u => Own u B x.1.1 m x.1.2 l ∧ (∀ b ∈ blks x.1.1 x.1.2, b < x.2) ∧ x.2 ≤ u.heap.size ∧ B ≤ x.2) (appS 22 22 (litV 0 g) (.slice A m c)) := by
  obtain ⟨i0, hi0, hz0, hz1, hz2⟩ := info_parts Try.info_u32
  obtain ⟨v', w', hrun, h2, h3, h4⟩ := run_append_any (P := Try.prog) w B 22 22 53 i0 _ 1 4 Try.underlying22 hi0 hz0 hz1 hz2 rfl (by omega) _ 0 _ hown w.heap.size A m c (u32s l) hx.rd u32s_one (by simp only [maxLen]; omega) (by omega) hB
  rw [List.nil_append, Nat.zero_add] at h2
  obtain ⟨A', c', rfl, o⟩ := Own.of_row h2 hx.dig hx.len
  have hlt : ∀ b ∈ blks A' c', b < w'.heap.size := fun b hb => by
    obtain ⟨_, _, _, _, h⟩ := o.blk b hb
    exact (Array.getElem?_eq_some_iff.1 h).1
  refine ⟨((A', c'), w'.heap.size), w', by simp [appS, hrun], ⟨h3.os, h3.tape, h3.output, h3.size, fun k hk hL => h3.block k hk (fun e => hL (by simp [litV, Value.ownBlock] at e; simp [e]))⟩, fun w'' k1 k2 => ⟨?_, hlt, k1, Nat.le_trans hB h3.size⟩⟩
  have hb : ∀ b ∈ blks A' c', w''.heap[b]? = w'.heap[b]? := fun b hb => by
    refine k2 b ?_
    have hlt := hlt b hb
    unfold blks at hb
    split at hb
    · split at hb
      · cases hb
      · simp only [List.mem_singleton] at hb
        subst hb
        rcases h4 with e | e
        · left; simp [litV, Value.ownBlock] at e; simp [e]
        · right; simp [Value.ownBlock] at e; omega
    · cases hb
  refine ⟨⟨o.dig, o.len, o.le, o.cap, o.rd.1, fun h0 => ?_⟩, fun h0 => ?_⟩
  · obtain ⟨x, hA, hbl, hc⟩ := o.rd.2 h0
    have hle := o.le
    refine ⟨x, hA, Nat.lt_of_lt_of_le hbl k1, fun j u hu => ?_⟩
    have e : w''.cell? (x.add j) = w'.cell? (x.add j) := World.cell?_of_block (by rw [block_of_add]; exact hb _ (by unfold blks; rw [hA]; simp; omega))
    exact e.trans (hc j u hu)
  · have h0' : c' ≠ 0 := Nat.pos_iff_ne_zero.1 h0
    obtain ⟨g, cur, t, hA, hB, hh, hs⟩ := o.own h0
    exact ⟨g, cur, t, hA, hB, (hb g (by unfold blks; rw [hA]; simp [h0'])).trans hh, hs⟩
def cp (v : SV) (x : Option Addr × Nat) : SV := ⟨v.s, x.1, v.n, x.2, v.l⟩
def cpV (a : RV) (x : (Option Addr × Nat) × (Option Addr × Nat)) : RV := ⟨cp a.a x.1, cp a.b x.2⟩
theorem lit_blk {w : World} {B g : Nat} (h : w.ownsRow B 53 1 (litV 0 g) 0 []) : ∀ b ∈ [g], B ≤ b ∧ ∃ cs ty own, w.heap[b]? = some (.cells cs ty own) := by
  intro b hb
  simp only [List.mem_singleton] at hb
  subst hb
  rcases h.2 with ⟨h, _⟩ | ⟨g, cap, cur, h, hB, hh, _⟩
  · cases h
  · injection h with h _ _
    injection h with h
    injection h with h
    subst h
    exact ⟨hB, _, _, _, hh⟩

set_option maxRecDepth 100000 in
set_option maxHeartbeats 1000000 in
theorem qclone_m {a : RV} {w : World} (ha : In w a.a.A a.a.n a.a.c a.a.l) (hb : In w a.b.A a.b.n a.b.c a.b.l) (hn : a.a.n ≤ 1000000 ∧ a.b.n ≤ 1000000) :
    Calls Try.prog 17 #[a.val] w (CallPost w (fun x => (cpV a x).val) fun x u => Own u w.heap.size x.1.1 a.a.n x.1.2 a.a.l ∧ Own u w.heap.size x.2.1 a.b.n x.2.2 a.b.l) := by
  refine Good.enter Try.func17 rfl ?_
  refine Good.run (by kernel_rfl) (stop := 1000) 1000 _ ?_
  refine Good.make (litS 22 0 #[]) (litV 0) (fun g u => u.ownsRow w.heap.size 53 1 (litV 0 g) 0 []) (by kernel_rfl) (fun w1 hw h => make_nil hw.size) (fun g1 => ?_)
  refine Good.run (by kernel_rfl) (stop := 4) 1000 _ ?_
  refine Good.mutOp (L := [g1]) (Φ' := fun (x : (Option Addr × Nat) × Nat) u => Own u w.heap.size x.1.1 a.a.n x.1.2 a.a.l ∧ (∀ b ∈ blks x.1.1 x.1.2, b < x.2) ∧ x.2 ≤ u.heap.size ∧ w.heap.size ≤ x.2) (appS 22 22 (litV 0 g1) (.slice a.a.A a.a.n a.a.c)) (fun w1 hw h => app_m h.2 (ha.below hw) hw.size hn.1) (fun u h => lit_blk h.2) (fun x wa u e1 e2 h hG => hG) (by kernel_rfl) (by kernel_rfl) (fun x => ?_)
  refine Good.run (by kernel_rfl) (stop := 1000) 1000 _ ?_
  refine Good.make (litS 22 0 #[]) (litV 0) (fun g u => u.ownsRow x.2 53 1 (litV 0 g) 0 []) (by kernel_rfl) (fun w1 hw h => make_nil h.2.2.1) (fun g2 => ?_)
  refine Good.run (by kernel_rfl) (stop := 4) 1000 _ ?_
  refine Good.mutOp (L := [g2]) (Φ' := fun (y : (Option Addr × Nat) × Nat) u => Own u w.heap.size x.1.1 a.a.n x.1.2 a.a.l ∧ Own u w.heap.size y.1.1 a.b.n y.1.2 a.b.l) (appS 22 22 (litV 0 g2) (.slice a.b.A a.b.n a.b.c)) (fun w1 hw h => app_m h.2 (hb.below hw) h.1.2.2.1 hn.2) (fun u h b hb => ⟨Nat.le_trans h.1.2.2.2 (lit_blk h.2 b hb).1, (lit_blk h.2 b hb).2⟩) (fun y wa u e1 e2 h hG => ⟨h.1.1.left e1 e2 (fun b hb hn => ?_), hG.1.base h.1.2.2.2⟩) (by kernel_rfl) (by kernel_rfl) (fun y => ?_)
  · have h1 := h.1.2.1 b hb
    have h2 := (lit_blk h.2 b hn).1
    omega
  refine Good.run (by kernel_rfl) (stop := 1000) 1000 _ ?_
  refine Good.ret (v := (cpV a (x.1, y.1)).val) (by kernel_rfl) (fun w1 hw h => ⟨(x.1, y.1), rfl, hw, fun w'' k1 k2 => h w'' k1 k2⟩)

/-- The call wrote 77 into all of the slice's cells. -/
def mutL (a : RV) : List Nat := blks a.a.A a.a.c ++ blks a.b.A a.b.c
theorem slot_lt {w : World} {B n c : Nat} {A : Option Addr} {l : List Nat} (h : Own w B A n c l) {k : Nat} (hk : k < n) : ∃ g cur t, A = some ⟨g, 0, none⟩ ∧ w.heap[g]? = some (.cells cur t (0, 0)) ∧ k < cur.size := by
  have hle := h.le
  obtain ⟨g, cur, t, hA, _, hh, hs⟩ := h.own (by omega)
  exact ⟨g, cur, t, hA, hh, by omega⟩
/-- The block is as long as it was, and still its maker's. -/
def Lng (w w' : World) : Prop := ∀ (g : Nat) (cur : Array Value) (t : TypeId), w.heap[g]? = some (Obj.cells cur t (0, 0)) → ∃ cur' : Array Value, w'.heap[g]? = some (Obj.cells cur' t (0, 0)) ∧ cur'.size = cur.size
theorem Lng.refl (w : World) : Lng w w := fun g cur t h => ⟨cur, h, rfl⟩
theorem Lng.drew {w w' : World} (h : Lng w w') : Lng w w'.drew := h
theorem Lng.drewN {w w' : World} (h : Lng w w') (q : Nat) : Lng w (w'.drewN q) := h
theorem Lng.alloc {w w' : World} (h : Lng w w') (o : Obj) : Lng w (w'.alloc o) := fun g cur t hg => by
  obtain ⟨cur', h1, h2⟩ := h g cur t hg
  exact ⟨cur', (Below.heap_alloc _ _ _ (Array.getElem?_eq_some_iff.1 h1).1).trans h1, h2⟩
theorem Lng.set {w w' : World} (h : Lng w w') (p : Addr) (u : Value) : Lng w (w'.setCell p u) := fun g cur t hg => by
  obtain ⟨cur', h1, h2⟩ := h g cur t hg
  by_cases e : g = p.block
  · subst e
    refine ⟨if p.spot.isSome then cur' else cur'.setIfInBounds p.off u, ?_, by split <;> simp [h2]⟩
    simp only [World.setCell, Array.getElem?_modify, if_true, h1, Option.map_some]
  · exact ⟨cur', (Below.heap_setCell _ _ _ _ e).trans h1, h2⟩
theorem Lng.cell {w w' : World} (h : Lng w w') {g k : Nat} {cur : Array Value} {t : TypeId} (hg : w.heap[g]? = some (.cells cur t (0, 0))) (hk : k < cur.size) :
    (∃ u, w'.cell? ⟨g, k, none⟩ = some u) ∧ w'.frozen? ⟨g, k, none⟩ = false := by
  obtain ⟨cur', h1, h2⟩ := h g cur t hg
  exact ⟨⟨cur'[k]'(by omega), by simp [World.cell?, h1, h2, hk]⟩, by simp [World.frozen?, h1]⟩
theorem Chg.drewN {L : List Nat} {a w : World} (h : Chg L a w) (q : Nat) : Chg L a (w.drewN q) := ⟨h.os, h.tape, h.output, h.size, h.block⟩

structure OwI (w : World) (L : List Nat) (t : TypeId) (cs : Array Value) (wx : World) : Prop where
  chg : Chg L w wx
  lng : Lng w wx
  blk : Blk wx w.heap.size t cs
theorem OwI.set {w wx : World} {L : List Nat} {t : TypeId} {cs : Array Value} (h : OwI w L t cs wx) {g : Nat} (hg : g ∈ L) (hlt : g < w.heap.size) (k : Nat) (u : Value) : OwI w L t cs (wx.setCell ⟨g, k, none⟩ u) :=
  ⟨h.chg.trans (Chg.setCell hg u), h.lng.set _ _, h.blk.far (by show w.heap.size ≠ g; omega) u⟩
theorem OwI.drewN {w wx : World} {L : List Nat} {t : TypeId} {cs : Array Value} (h : OwI w L t cs wx) (q : Nat) : OwI w L t cs (wx.drewN q) := ⟨h.chg.drewN q, h.lng.drewN q, h.blk.drewN q⟩
theorem OwI.start (w : World) (L : List Nat) (t : TypeId) (cs : Array Value) : OwI w L t cs (w.alloc (.cells cs t)) :=
  ⟨Chg.of_below ((Below.refl _ _).alloc (Nat.le_refl _) _), (Lng.refl w).alloc _, by have := allocs_blk [(cs, t)] w 0 _ _ rfl; exact this⟩

set_option maxRecDepth 100000 in
set_option maxHeartbeats 2000000 in
theorem qoverwrite_c {a : RV} {B : Nat} (w : World) (ha : Own w B a.a.A a.a.n a.a.c a.a.l) (hb : Own w B a.b.A a.b.n a.b.c a.b.l) :
    Calls Try.prog 27 #[a.val] w (MutPost w (mutL a) (fun _ : Unit => .tuple #[]) fun _ _ => True) := by
  have hn := ha.lenI
  have hm := hb.lenI
  obtain ⟨⟨s1, A1, n1, c1, l1⟩, ⟨s2, A2, n2, c2, l2⟩⟩ := a
  simp only at ha hb hn hm
  go_enter Try.func27, Try.ntmps27
  go_wp2_with fail
  have hI0 := OwI.start w (mutL ⟨⟨s1, A1, n1, c1, l1⟩, ⟨s2, A2, n2, c2, l2⟩⟩) 26 #[.bool s1, .slice A1 n1 c1, .bool s2, .slice A2 n2 c2]
  generalize hL : mutL ⟨⟨s1, A1, n1, c1, l1⟩, ⟨s2, A2, n2, c2, l2⟩⟩ = L at hI0 ⊢
  generalize w.alloc (.cells #[.bool s1, .slice A1 n1 c1, .bool s2, .slice A2 n2 c2] 26) = w0 at hI0 ⊢
  have HL := hide hL
  have HI0 := hide hI0
  clear hL hI0
  go_loopw [8] (fun si wx => ∃ k : Nat, k ≤ n1 ∧ si = .int .i64 k ∧ Hid (OwI w L 26 #[.bool s1, .slice A1 n1 c1, .bool s2, .slice A2 n2 c2] wx)) (fun si _ => n1 - (intOf si).toNat)
  case atStart => exact ⟨0, Nat.zero_le _, rfl, HI0⟩
  case round =>
    obtain ⟨k, hk, rfl, hI⟩ := hrel
    have b1 := (unhide hI).blk.cell 1
    have b3 := (unhide hI).blk.cell 3
    by_cases hlt : k < n1
    · obtain ⟨g, cur, t, rfl, hh, hkc⟩ := slot_lt ha hlt
      obtain ⟨⟨u0, hc⟩, hf⟩ := (unhide hI).lng.cell hh hkc
      have hik : (k : Int) < (n1 : Int) := by omega
      have hcle := ha.le
      have hgL : Hid (g ∈ L) := by
        rw [← unhide HL]
        exact List.mem_append_left _ (by unfold blks; simp; omega)
      have hglt := (Array.getElem?_eq_some_iff.1 hh).1
      have HH := hide hh
      have HA := hide ha
      have HB := hide hb
      clear hh ha hb
      go_wp2_with fail
      go_roundw
      case rel =>
        refine ⟨k + 1, by omega, by go_num, ?_⟩
        exact hide ((unhide hI).set (unhide hgL) hglt k _)
      case measure => simp [intOf]; omega
    · have hik : ¬ (k : Int) < (n1 : Int) := by omega
      clear hn
      go_wp2_with fail
      clear hik hlt hk
      go_loopw [21] (fun si wy => ∃ k : Nat, k ≤ n2 ∧ si = .int .i64 k ∧ Hid (OwI w L 26 #[.bool s1, .slice A1 n1 c1, .bool s2, .slice A2 n2 c2] wy)) (fun si _ => n2 - (intOf si).toNat)
      case atStart => exact ⟨0, Nat.zero_le _, rfl, hI⟩
      case round =>
        obtain ⟨k, hk, rfl, hJ⟩ := hrel
        have b3 := (unhide hJ).blk.cell 3
        by_cases hlt : k < n2
        · obtain ⟨g, cur, t, rfl, hh, hkc⟩ := slot_lt hb hlt
          obtain ⟨⟨u0, hc⟩, hf⟩ := (unhide hJ).lng.cell hh hkc
          have hik : (k : Int) < (n2 : Int) := by omega
          have hcle := hb.le
          have hgL : Hid (g ∈ L) := by
            rw [← unhide HL]
            exact List.mem_append_right _ (by unfold blks; simp; omega)
          have hglt := (Array.getElem?_eq_some_iff.1 hh).1
          have HH := hide hh
          have HA := hide ha
          have HB := hide hb
          clear hh ha hb
          go_wp2_with fail
          go_roundw
          case rel =>
            refine ⟨k + 1, by omega, by go_num, ?_⟩
            exact hide ((unhide hJ).set (unhide hgL) hglt k _)
          case measure => simp [intOf]; omega
        · have hik : ¬ (k : Int) < (n2 : Int) := by omega
          go_wp2_with fail
          go_end0
          have hJ := unhide hJ
          rw [unhide HL]
          exact ⟨(), rfl, hJ.chg, fun _ _ _ => trivial⟩

end Go.Proofs.Ytjdcolaefhheaaa
