/-
  Regions: an operation whose guard is not met; rows of integers' structs.
-/
import Derived.Test.YtjdcolaefhheaaaHeldW
import Derived.Test.YtjdcolaefhheaaaKb
namespace Go.Proofs.Ytjdcolaefhheaaa
set_option linter.unusedVariables false
set_option linter.unusedSimpArgs false
open Go.RowKit

theorem wpAnyW_takeN {P : Program} {ops : Array Oper} {Q : Exit → Act → World → Prop} {md : Region.Mode} {S : World → Prop} {T : Nat → Bool} {i : Nat} {oi : Oper} (d : Option Tmp) {fuel : Nat} {listed L : Array Bool} {a : Act} {w : World} (hi : ops[i]? = some oi)
    (hs : Region.noSelect ops = true) (hf : Region.free md ops listed i = true) (hr : (Region.ready md ops listed).contains i = true) (hT : waits md ops T i = true) (hcl : closedB md ops listed = true) (hL : listed.setIfInBounds i true = L)
    (hQ : ∀ c a w, Q (.panic c) (a.put oi.dst undef) w → Q (.panic c) a w) (hwt : Region.wanted oi (yielded ops a.tmps) = false) (hS : S w) (hd : oi.dst = d)
    (h : wpAnyW P md ops Q S T fuel L (a.put d undef) w) : wpAnyW P md ops Q S T (fuel + 1) listed a w :=
  wpAnyW_take hi hs hf hr hT hcl hQ (.inr ⟨hwt, rfl⟩) hS (by rw [hL, hd]; exact h)

theorem rowi1 {w : World} {g : Nat} {t : TypeId} {s0 : Bool} {A0 : Option Addr} {n0 c0 : Nat} (h : Blk w g t #[.bool s0, .slice A0 n0 c0]) (h0 : (n0 : Int) ≤ 9223372036854775807) : Rowi w g [(s0, A0, n0, c0)] := by
  intro i e he
  match i, he with
  | 0, he => injection he with he; subst he; exact ⟨h.cell 0, h.cell 1, h0⟩
theorem rowi2 {w : World} {g : Nat} {t : TypeId} {s0 s1 : Bool} {A0 A1 : Option Addr} {n0 c0 n1 c1 : Nat} (h : Blk w g t #[.bool s0, .slice A0 n0 c0, .bool s1, .slice A1 n1 c1]) (h0 : (n0 : Int) ≤ 9223372036854775807) (h1 : (n1 : Int) ≤ 9223372036854775807) : Rowi w g [(s0, A0, n0, c0), (s1, A1, n1, c1)] := by
  intro i e he
  match i, he with
  | 0, he => injection he with he; subst he; exact ⟨h.cell 0, h.cell 1, h0⟩
  | 1, he => injection he with he; subst he; exact ⟨h.cell 2, h.cell 3, h1⟩
theorem rowi3 {w : World} {g : Nat} {t : TypeId} {s0 s1 s2 : Bool} {A0 A1 A2 : Option Addr} {n0 c0 n1 c1 n2 c2 : Nat} (h : Blk w g t #[.bool s0, .slice A0 n0 c0, .bool s1, .slice A1 n1 c1, .bool s2, .slice A2 n2 c2]) (h0 : (n0 : Int) ≤ 9223372036854775807) (h1 : (n1 : Int) ≤ 9223372036854775807) (h2 : (n2 : Int) ≤ 9223372036854775807) : Rowi w g [(s0, A0, n0, c0), (s1, A1, n1, c1), (s2, A2, n2, c2)] := by
  intro i e he
  match i, he with
  | 0, he => injection he with he; subst he; exact ⟨h.cell 0, h.cell 1, h0⟩
  | 1, he => injection he with he; subst he; exact ⟨h.cell 2, h.cell 3, h1⟩
  | 2, he => injection he with he; subst he; exact ⟨h.cell 4, h.cell 5, h2⟩
theorem ii_same {w w' : World} {s t : Bool} {A B : Option Addr} {n c m d K K' : Nat} {a b : List Nat} {x : Int} (Na : Norm a) (Nb : Norm b) (ia : II w s A n c a x K) (ib : II w' t B m d b x K') : a = b ∧ n = m := by
  have h1 : a = b := Na.unique Nb (by rw [← ia.abs, ← ib.abs])
  refine ⟨h1, ?_⟩
  rw [← ia.inn.len, ← ib.inn.len, h1]

theorem isame_v {s : Bool} {A B : Option Addr} {n c m d K K' : Nat} {a b : List Nat} {x : Int} (w : World) (Na : Norm a) (Nb : Norm b) (ia : II w s A n c a x K) (ib : II w s B m d b x K') :
    Calls Try.prog 53 #[.agg #[.bool s, .slice A n c], .agg #[.bool s, .slice B m d]] w (RetV w (.bool true)) := by
  obtain ⟨rfl, rfl⟩ := ii_same Na Nb ia ib
  exact isame_t w ia.inn ib.inn

/-- Reading and writing an integer undo each other. -/
theorem fmtI_parse {l : List UInt8} (h : parseIE l = 0) : fmtI (parseIV l) = l := by
  have h0 : parseE (prest l) = 0 := by
    rcases Classical.em (parseE (prest l) = 0) with e | e
    · exact e
    · have := (parseI_bad e).1; rw [h] at this; exact absurd this.symm e
  by_cases hz : pneg l = true ∧ parseV (prest l) = 0
  · have := (parseI_zero h0 hz.1 hz.2).1
    rw [h] at this; cases this
  · rw [(parseI_good h0 hz).2]
    obtain ⟨h2, h3, _, _⟩ := decS_parse h0
    cases l with
    | nil => rw [pneg_nil.1, pneg_nil.2] at *; rw [fmtI_pos (by simp [zi])]; exact h2
    | cons b t =>
      by_cases e : b = 45
      · subst e
        rw [(pneg_cons_yes t).1, (pneg_cons_yes t).2] at *
        have hv : parseV t ≠ 0 := fun e => hz ⟨rfl, e⟩
        rw [fmtI_neg (by simp [zi]; omega), zi_abs, h2]
      · rw [(pneg_cons_no e).1, (pneg_cons_no e).2] at *
        rw [fmtI_pos (by simp [zi]), zi_abs, h2]
theorem parse_fmtI {x : Int} (h : (decS x.natAbs).length ≤ 1000) : parseIE (fmtI x) = 0 ∧ parseIV (fmtI x) = x := by
  obtain ⟨h1, h2⟩ := parse_decS h
  by_cases hx : x < 0
  · rw [fmtI_neg hx]
    have hz : ¬ (pneg (45 :: decS x.natAbs) = true ∧ parseV (prest (45 :: decS x.natAbs)) = 0) := by
      rintro ⟨_, h3⟩
      rw [(pneg_cons_yes _).2, h2] at h3; omega
    have hg := parseI_good (by rw [(pneg_cons_yes _).2]; exact h1) hz
    refine ⟨hg.1, ?_⟩
    rw [hg.2, (pneg_cons_yes _).1, (pneg_cons_yes _).2, h2]
    simp [zi]; omega
  · rw [fmtI_pos hx]
    have hp : pneg (decS x.natAbs) = false ∧ prest (decS x.natAbs) = decS x.natAbs := by
      cases hc : decS x.natAbs with
      | nil => exact pneg_nil
      | cons b t =>
        refine pneg_cons_no ?_
        rintro rfl
        have := decS_isD x.natAbs 45 (by rw [hc]; exact List.mem_cons_self ..)
        simp at this
    have hg := parseI_good (l := decS x.natAbs) (by rw [hp.2]; exact h1) (by rintro ⟨h3, _⟩; rw [hp.1] at h3; cases h3)
    refine ⟨hg.1, ?_⟩
    rw [hg.2, hp.1, hp.2, h2]
    simp [zi]; omega

end Go.Proofs.Ytjdcolaefhheaaa
