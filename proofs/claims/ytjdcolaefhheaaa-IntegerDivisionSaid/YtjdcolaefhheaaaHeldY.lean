/-
  New boxes among calls, in any order: what is stored into one of them leaves the calls' results as they were.
-/
import Derived.Test.YtjdcolaefhheaaaHeldX
namespace Go.Proofs.Ytjdcolaefhheaaa
set_option linter.unusedVariables false
set_option linter.unusedSimpArgs false
open Go.RowKit

/-- A slice of room c does not lie in block g. -/
def Away (c : Nat) (A : Option Addr) (g : Nat) : Prop := 0 < c → ∀ x, A = some x → x.block ≠ g
theorem Own.away_new {w : World} {B : Nat} {A : Option Addr} {n c : Nat} {l : List Nat} (h : Own w B A n c l) {g : Nat} (hg : w.heap.size ≤ g) : Away c A g := by
  intro hc x hx
  obtain ⟨g', cur, t, hA, _, hh, _⟩ := h.own hc
  rw [hA] at hx
  injection hx with hx
  subst hx
  have := (Array.getElem?_eq_some_iff.1 hh).1
  show g' ≠ g
  omega
theorem Own.away_old {w : World} {B : Nat} {A : Option Addr} {n c : Nat} {l : List Nat} (h : Own w B A n c l) {g : Nat} (hg : g < B) : Away c A g := by
  intro hc x hx
  obtain ⟨g', cur, t, hA, hB, _, _⟩ := h.own hc
  rw [hA] at hx
  injection hx with hx
  subst hx
  show g' ≠ g
  omega

/-- w' is w but for what lies in block g. -/
structure Put (w : World) (g : Nat) (w' : World) : Prop where
  size : w'.heap.size = w.heap.size
  heap : ∀ b, b ≠ g → w'.heap[b]? = w.heap[b]?
  bel : ∀ (B : Nat) (u : World), B ≤ g → Below B u w → Below B u w'
theorem Put.cell {w w' : World} {g : Nat} (h : Put w g w') {q : Addr} (hq : q.block ≠ g) : w'.cell? q = w.cell? q := by
  unfold World.cell?
  rw [h.heap _ hq]
theorem Put.frozen {w w' : World} {g : Nat} (h : Put w g w') {q : Addr} (hq : q.block ≠ g) : w'.frozen? q = w.frozen? q := by
  unfold World.frozen?
  rw [h.heap _ hq]
theorem Put.set2 (w : World) (g : Nat) (x y : Value) : Put w g ((w.setCell ⟨g, 0, none⟩ x).setCell ⟨g, 1, none⟩ y) where
  size := by simp [World.setCell]
  heap := fun b hb => by
    rw [Below.heap_setCell _ _ _ _ hb, Below.heap_setCell _ _ _ _ hb]
  bel := fun B u hB h => (h.setCell (p := ⟨g, 0, none⟩) hB x).setCell (p := ⟨g, 1, none⟩) hB y
theorem put2_cells {w : World} {g : Nat} (h : Bw g 2 w) (x y : Value) :
    ((w.setCell ⟨g, 0, none⟩ x).setCell ⟨g, 1, none⟩ y).cell? ⟨g, 0, none⟩ = some x ∧ ((w.setCell ⟨g, 0, none⟩ x).setCell ⟨g, 1, none⟩ y).cell? ⟨g, 1, none⟩ = some y := by
  obtain ⟨⟨u, h0, _⟩, ⟨v, h1, _⟩⟩ := h.two
  have e0 : (w.setCell ⟨g, 0, none⟩ x).cell? ⟨g, 0, none⟩ = some x := World.cell?_setCell_same w _ _ h0
  have e1 : (w.setCell ⟨g, 0, none⟩ x).cell? ⟨g, 1, none⟩ = some v := (World.cell?_setCell_other _ _ _ _ (by intro e; injection e with _ e _; cases e)).trans h1
  exact ⟨(World.cell?_setCell_other _ _ _ _ (by intro e; injection e with _ e _; cases e)).trans e0, World.cell?_setCell_same _ _ _ e1⟩
theorem Bw.put {w w' : World} {g k m : Nat} (h : Bw m k w) (hp : Put w g w') (hne : m ≠ g) : Bw m k w' := fun i hi => by
  obtain ⟨u, h1, h2⟩ := h i hi
  exact ⟨u, (hp.cell (q := ⟨m, i, none⟩) hne).trans h1, (hp.frozen (q := ⟨m, i, none⟩) hne).trans h2⟩
theorem In.put {w w' : World} {g : Nat} {A : Option Addr} {n c : Nat} {l : List Nat} (h : In w A n c l) (hp : Put w g w') (ha : Away c A g) : In w' A n c l := by
  refine ⟨h.dig, h.len, h.le, h.cap, h.rd.1, fun h0 => ?_⟩
  obtain ⟨x, hA, hb, hc⟩ := h.rd.2 h0
  have hle := h.le
  have hne := ha (by omega) x hA
  refine ⟨x, hA, by rw [hp.size]; exact hb, fun j u hu => ?_⟩
  rw [hp.cell (by rw [block_of_add]; exact hne)]
  exact hc j u hu
theorem Own.put {w w' : World} {B g : Nat} {A : Option Addr} {n c : Nat} {l : List Nat} (h : Own w B A n c l) (hp : Put w g w') (ha : Away c A g) : Own w' B A n c l :=
  ⟨h.toIn.put hp ha, fun h0 => by
    obtain ⟨g', cur, t, hA, hB, hh, hs⟩ := h.own h0
    exact ⟨g', cur, t, hA, hB, (hp.heap g' (ha h0 _ hA)).trans hh, hs⟩⟩
theorem II.put {w w' : World} {g : Nat} {s : Bool} {A : Option Addr} {n c : Nat} {l : List Nat} {x : Int} {K : Nat} (h : II w s A n c l x K) (hp : Put w g w') (ha : Away c A g) : II w' s A n c l x K :=
  ⟨h.inn.put hp ha, h.2, h.3⟩
theorem Fr.put {w : World} {rs : List (Nat × Nat)} {w1 w2 : World} {g : Nat} (h : Fr w rs w1) (hp : Put w1 g w2) (hg : w.heap.size ≤ g) (hne : ∀ r ∈ rs, r.1 ≠ g) : Fr w rs w2 :=
  ⟨hp.bel _ _ hg h.bel, fun r hr => ⟨(h.res r hr).1, (h.res r hr).2.put hp (hne r hr)⟩⟩

/-- What own hands back: room for one more digit behind the end, which is 77. -/
structure OwnV (w : World) (B : Nat) (A : Addr) (n c : Nat) (l : List Nat) : Prop where
  room : n + 1 ≤ c
  own : Own w B (some A) n c l
  last : w.cell? (A.add n) = some (.int .u32 77)
theorem OwnV.below {w w' : World} {B : Nat} {A : Addr} {n c : Nat} {l : List Nat} (h : OwnV w B A n c l) (hb : Below w.heap.size w w') : OwnV w' B A n c l :=
  ⟨h.room, h.own.below hb, keepc hb h.last⟩
theorem OwnV.put {w w' : World} {B g : Nat} {A : Addr} {n c : Nat} {l : List Nat} (h : OwnV w B A n c l) (hp : Put w g w') (ha : Away c (some A) g) : OwnV w' B A n c l :=
  ⟨h.room, h.own.put hp ha, by
    have hr := h.room
    rw [hp.cell (by rw [block_of_add]; exact ha (by omega) A rfl)]
    exact h.last⟩
theorem OwnV.base {w : World} {B B' : Nat} {A : Addr} {n c : Nat} {l : List Nat} (h : OwnV w B A n c l) (hB : B' ≤ B) : OwnV w B' A n c l :=
  ⟨h.room, h.own.base hB, h.last⟩

theorem AllReadyW.consL {P : Program} {ops : Array Oper} {Q : Exit → Act → World → Prop} {md : Region.Mode} {S : World → Prop} {T : Nat → Bool} {fuel : Nat} {listed L : Array Bool} {a : Act} {w : World} {i : Nat} {o : Oper} {rs : List Nat} (ho : ops[i]? = some o) (hT : T i = false) (hL : listed.setIfInBounds i true = L) (hwt : Region.wanted o (yielded ops a.tmps) = true)
    (h : ∀ K' : Act → World → Prop, Shut (∀ a w, S w → (S w → wpAnyW P md ops Q S T fuel L a w) → K' a w) → Oper.wp P o a w K' Q)
    (hs : AllReadyW P md ops Q S T fuel listed a w rs) : AllReadyW P md ops Q S T fuel listed a w (i :: rs) :=
  AllReadyW.cons ho hT (fun K' hK => by rw [if_pos hwt]; rw [hL] at hK; exact h K' hK) hs
theorem below_step {u w1 w2 : World} (h : Below u.heap.size u w1) (hb : Below w1.heap.size w1 w2) : Below u.heap.size u w2 := h.trans (hb.mono h.size)

end Go.Proofs.Ytjdcolaefhheaaa
