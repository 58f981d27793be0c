/-
 Paints as text: rows of structs; what is read and written.
-/
import Derived.Test.YtncodmhgfkailaaGreatDoorYI
import Derived.Test.YtncodmhgfkailaaGreatDoorYA
namespace Go.Proofs.YtncodmhgfkailaaGreatDoor
set_option maxRecDepth 100000
set_option maxHeartbeats 8000000
set_option linter.unusedVariables false
set_option linter.unusedSimpArgs false
open Go.RowKit
section
variable {w : World} {t : TV} {T : Aff} {K : Nat}
theorem affineWords_m {N : Nat} (hN : N ≤ w.heap.size) (ht : IsA t T K w) (hK : 2 ≤ K ∧ K ≤ 1000) : Calls Tryz.prog 53 #[t.val] w (K5 w (fun y : Option Addr × Nat => .slice y.1 6 y.2) fun y u => K6 u N 9 1 y.1 6 y.2 (sv (Lr T))) := by
 refine K0.enter Tryz.func53 rfl ?_
 refine ZR ?_
 refine K0.un Zk ?_
 refine ZR ?_
 refine ZI true ?_
 refine ZD 3 (fun w1 hw h => xformatQ_m (ht.a.below hw) hK) fun u => ?_
 refine K0.make (Li (64) 1 #[(0, K4 (Kk T.a))]) (Ki 1) (L8 9 #[K4 (Kk T.a)]) Zk (fun w1 hw h => Kb Zk) (fun gb0 => ?_)
 refine ZS 4 ?_
 refine K0.mutOp (L := bl none) (val := fun (z : Option Addr × Nat) => .slice z.1 (0 + 1) z.2) (Φ' := fun (z : Option Addr × Nat) v => K6 v w.heap.size 9 1 z.1 (0 + 1) z.2 (sv [Kk T.a])) (G := fun (z : Option Addr × Nat) v => K6 v w.heap.size 9 1 z.1 (0 + 1) z.2 (sv [Kk T.a])) (M2 64 64 (.slice none 0 0) (Ki 1 gb0)) (fun w1 hw h => Qz (p := ([] : List (List UInt8))) (m := 0) (K6.nil_ : K6 w1 w.heap.size 9 1 none 0 0 (sv [])) hw.size h.2 Zd) (fun wb h => fun b hb => ⟨((K6.nil_ : K6 wb w.heap.size 9 1 none 0 0 (sv [])).lt b hb).1, ((K6.nil_ : K6 wb w.heap.size 9 1 none 0 0 (sv [])).blk b hb).2⟩) (fun z wa wb e1 e2 h hG => hG) Zk Zk (fun z0 => ?_)
 refine ZR ?_
 refine K0.drop 5 Zk (fun _ => ?_)
 refine ZI true ?_
 refine ZD 3 (fun w1 hw h => xformatQ_m (ht.b.below hw) hK) fun u => ?_
 refine K0.make (Li (64) 1 #[(0, K4 (Kk T.b))]) (Ki 1) (L8 9 #[K4 (Kk T.b)]) Zk (fun w1 hw h => Kb Zk) (fun gb1 => ?_)
 refine ZS 4 ?_
 refine K0.mutOp (L := bl z0.1) (val := fun (z : Option Addr × Nat) => .slice z.1 (1 + 1) z.2) (Φ' := fun (z : Option Addr × Nat) v => K6 v w.heap.size 9 1 z.1 (1 + 1) z.2 (sv [Kk T.a, Kk T.b])) (G := fun (z : Option Addr × Nat) v => K6 v w.heap.size 9 1 z.1 (1 + 1) z.2 (sv [Kk T.a, Kk T.b])) (M2 64 64 (.slice z0.1 1 z0.2) (Ki 1 gb1)) (fun w1 hw h => Qz (p := ([Kk T.a] : List (List UInt8))) (m := 1) (show K6 w1 w.heap.size 9 1 z0.1 1 z0.2 (sv ([Kk T.a] : List (List UInt8))) from h.1.1) hw.size h.2 Zd) (fun wb h => fun b hb => ⟨((show K6 wb w.heap.size 9 1 z0.1 1 z0.2 (sv ([Kk T.a] : List (List UInt8))) from h.1.1).lt b hb).1, ((show K6 wb w.heap.size 9 1 z0.1 1 z0.2 (sv ([Kk T.a] : List (List UInt8))) from h.1.1).blk b hb).2⟩) (fun z wa wb e1 e2 h hG => hG) Zk Zk (fun z1 => ?_)
 refine ZR ?_
 refine K0.drop 5 Zk (fun _ => ?_)
 refine ZI true ?_
 refine ZD 3 (fun w1 hw h => xformatQ_m (ht.c.below hw) hK) fun u => ?_
 refine K0.make (Li (64) 1 #[(0, K4 (Kk T.c))]) (Ki 1) (L8 9 #[K4 (Kk T.c)]) Zk (fun w1 hw h => Kb Zk) (fun gb2 => ?_)
 refine ZS 4 ?_
 refine K0.mutOp (L := bl z1.1) (val := fun (z : Option Addr × Nat) => .slice z.1 (2 + 1) z.2) (Φ' := fun (z : Option Addr × Nat) v => K6 v w.heap.size 9 1 z.1 (2 + 1) z.2 (sv [Kk T.a, Kk T.b, Kk T.c])) (G := fun (z : Option Addr × Nat) v => K6 v w.heap.size 9 1 z.1 (2 + 1) z.2 (sv [Kk T.a, Kk T.b, Kk T.c])) (M2 64 64 (.slice z1.1 2 z1.2) (Ki 1 gb2)) (fun w1 hw h => Qz (p := ([Kk T.a, Kk T.b] : List (List UInt8))) (m := 2) (show K6 w1 w.heap.size 9 1 z1.1 2 z1.2 (sv ([Kk T.a, Kk T.b] : List (List UInt8))) from h.1.1) hw.size h.2 Zd) (fun wb h => fun b hb => ⟨((show K6 wb w.heap.size 9 1 z1.1 2 z1.2 (sv ([Kk T.a, Kk T.b] : List (List UInt8))) from h.1.1).lt b hb).1, ((show K6 wb w.heap.size 9 1 z1.1 2 z1.2 (sv ([Kk T.a, Kk T.b] : List (List UInt8))) from h.1.1).blk b hb).2⟩) (fun z wa wb e1 e2 h hG => hG) Zk Zk (fun z2 => ?_)
 refine ZR ?_
 refine K0.drop 5 Zk (fun _ => ?_)
 refine ZI true ?_
 refine ZD 3 (fun w1 hw h => xformatQ_m (ht.d.below hw) hK) fun u => ?_
 refine K0.make (Li (64) 1 #[(0, K4 (Kk T.d))]) (Ki 1) (L8 9 #[K4 (Kk T.d)]) Zk (fun w1 hw h => Kb Zk) (fun gb3 => ?_)
 refine ZS 4 ?_
 refine K0.mutOp (L := bl z2.1) (val := fun (z : Option Addr × Nat) => .slice z.1 (3 + 1) z.2) (Φ' := fun (z : Option Addr × Nat) v => K6 v w.heap.size 9 1 z.1 (3 + 1) z.2 (sv [Kk T.a, Kk T.b, Kk T.c, Kk T.d])) (G := fun (z : Option Addr × Nat) v => K6 v w.heap.size 9 1 z.1 (3 + 1) z.2 (sv [Kk T.a, Kk T.b, Kk T.c, Kk T.d])) (M2 64 64 (.slice z2.1 3 z2.2) (Ki 1 gb3)) (fun w1 hw h => Qz (p := ([Kk T.a, Kk T.b, Kk T.c] : List (List UInt8))) (m := 3) (show K6 w1 w.heap.size 9 1 z2.1 3 z2.2 (sv ([Kk T.a, Kk T.b, Kk T.c] : List (List UInt8))) from h.1.1) hw.size h.2 Zd) (fun wb h => fun b hb => ⟨((show K6 wb w.heap.size 9 1 z2.1 3 z2.2 (sv ([Kk T.a, Kk T.b, Kk T.c] : List (List UInt8))) from h.1.1).lt b hb).1, ((show K6 wb w.heap.size 9 1 z2.1 3 z2.2 (sv ([Kk T.a, Kk T.b, Kk T.c] : List (List UInt8))) from h.1.1).blk b hb).2⟩) (fun z wa wb e1 e2 h hG => hG) Zk Zk (fun z3 => ?_)
 refine ZR ?_
 refine K0.drop 5 Zk (fun _ => ?_)
 refine ZI true ?_
 refine ZD 3 (fun w1 hw h => xformatQ_m (ht.e.below hw) hK) fun u => ?_
 refine K0.make (Li (64) 1 #[(0, K4 (Kk T.e))]) (Ki 1) (L8 9 #[K4 (Kk T.e)]) Zk (fun w1 hw h => Kb Zk) (fun gb4 => ?_)
 refine ZS 4 ?_
 refine K0.mutOp (L := bl z3.1) (val := fun (z : Option Addr × Nat) => .slice z.1 (4 + 1) z.2) (Φ' := fun (z : Option Addr × Nat) v => K6 v w.heap.size 9 1 z.1 (4 + 1) z.2 (sv [Kk T.a, Kk T.b, Kk T.c, Kk T.d, Kk T.e])) (G := fun (z : Option Addr × Nat) v => K6 v w.heap.size 9 1 z.1 (4 + 1) z.2 (sv [Kk T.a, Kk T.b, Kk T.c, Kk T.d, Kk T.e])) (M2 64 64 (.slice z3.1 4 z3.2) (Ki 1 gb4)) (fun w1 hw h => Qz (p := ([Kk T.a, Kk T.b, Kk T.c, Kk T.d] : List (List UInt8))) (m := 4) (show K6 w1 w.heap.size 9 1 z3.1 4 z3.2 (sv ([Kk T.a, Kk T.b, Kk T.c, Kk T.d] : List (List UInt8))) from h.1.1) hw.size h.2 Zd) (fun wb h => fun b hb => ⟨((show K6 wb w.heap.size 9 1 z3.1 4 z3.2 (sv ([Kk T.a, Kk T.b, Kk T.c, Kk T.d] : List (List UInt8))) from h.1.1).lt b hb).1, ((show K6 wb w.heap.size 9 1 z3.1 4 z3.2 (sv ([Kk T.a, Kk T.b, Kk T.c, Kk T.d] : List (List UInt8))) from h.1.1).blk b hb).2⟩) (fun z wa wb e1 e2 h hG => hG) Zk Zk (fun z4 => ?_)
 refine ZR ?_
 refine K0.drop 5 Zk (fun _ => ?_)
 refine ZI true ?_
 refine ZD 3 (fun w1 hw h => xformatQ_m (ht.f.below hw) hK) fun u => ?_
 refine K0.make (Li (64) 1 #[(0, K4 (Kk T.f))]) (Ki 1) (L8 9 #[K4 (Kk T.f)]) Zk (fun w1 hw h => Kb Zk) (fun gb5 => ?_)
 refine ZS 4 ?_
 refine K0.mutOp (L := bl z4.1) (val := fun (z : Option Addr × Nat) => .slice z.1 (5 + 1) z.2) (Φ' := fun (z : Option Addr × Nat) v => K6 v w.heap.size 9 1 z.1 (5 + 1) z.2 (sv [Kk T.a, Kk T.b, Kk T.c, Kk T.d, Kk T.e, Kk T.f])) (G := fun (z : Option Addr × Nat) v => K6 v w.heap.size 9 1 z.1 (5 + 1) z.2 (sv [Kk T.a, Kk T.b, Kk T.c, Kk T.d, Kk T.e, Kk T.f])) (M2 64 64 (.slice z4.1 5 z4.2) (Ki 1 gb5)) (fun w1 hw h => Qz (p := ([Kk T.a, Kk T.b, Kk T.c, Kk T.d, Kk T.e] : List (List UInt8))) (m := 5) (show K6 w1 w.heap.size 9 1 z4.1 5 z4.2 (sv ([Kk T.a, Kk T.b, Kk T.c, Kk T.d, Kk T.e] : List (List UInt8))) from h.1.1) hw.size h.2 Zd) (fun wb h => fun b hb => ⟨((show K6 wb w.heap.size 9 1 z4.1 5 z4.2 (sv ([Kk T.a, Kk T.b, Kk T.c, Kk T.d, Kk T.e] : List (List UInt8))) from h.1.1).lt b hb).1, ((show K6 wb w.heap.size 9 1 z4.1 5 z4.2 (sv ([Kk T.a, Kk T.b, Kk T.c, Kk T.d, Kk T.e] : List (List UInt8))) from h.1.1).blk b hb).2⟩) (fun z wa wb e1 e2 h hG => hG) Zk Zk (fun z5 => ?_)
 refine ZR ?_
 refine ZI false ?_
 refine ZV (.slice z5.1 6 z5.2) (fun w1 hw h => ⟨z5, rfl, hw, fun w'' k1 k2 => (show K6 w'' w.heap.size 9 1 z5.1 6 z5.2 (sv (Lr T)) from h w'' k1 k2).rebase fun b hb => Nat.le_trans hN ((show K6 w'' w.heap.size 9 1 z5.1 6 z5.2 (sv (Lr T)) from h w'' k1 k2).lt b hb).1⟩)
end
def Qg {α : Type} (w : World) (A : Option Addr) (n s : Nat) (cl : α → List Value) (l : List α) : Prop := l.length = n ∧ ∀ (k : Nat) (x : α), l[k]? = some x → ∃ ad, A = some ad ∧ ∀ (j : Nat) (v : Value), (cl x)[j]? = some v → w.cell? ((ad.add (k * s)).add j) = some v
theorem Qg.below {α : Type} {w w1 : World} {A : Option Addr} {n s : Nat} {cl : α → List Value} {l : List α} (h : Qg w A n s cl l) (hw : Below w.heap.size w w1) : Qg w1 A n s cl l :=
 ⟨h.1, fun k x hk => by obtain ⟨ad, h1, h2⟩ := h.2 k x hk; exact ⟨ad, h1, fun j v hj => Mw hw (h2 j v hj)⟩⟩
theorem addadd (a : Addr) (m n : Nat) : (a.add m).add n = a.add (m + n) := by
 cases a; by_cases h1 : m = 0 <;> by_cases h2 : n = 0 <;> simp [Addr.add, h1, h2, Nat.add_assoc]
theorem flat_get {α : Type} {s : Nat} {cl : α → List Value} (hs : ∀ x, (cl x).length = s) : ∀ (l : List α) (k : Nat) (x : α) (j : Nat) (v : Value), l[k]? = some x → (cl x)[j]? = some v → (l.flatMap cl)[k * s + j]? = some v
 | [], k, x, j, v, h, _ => by simp at h
 | y :: l, 0, x, j, v, h, hj => by
  simp only [List.getElem?_cons_zero, Option.some.injEq] at h
  subst h
  have hl := (List.getElem?_eq_some_iff.1 hj).1
  rw [List.flatMap_cons, Nat.zero_mul, Nat.zero_add, List.getElem?_append_left hl]; exact hj
 | y :: l, k + 1, x, j, v, h, hj => by
  rw [List.getElem?_cons_succ] at h
  have ih := flat_get hs l k x j v h hj
  rw [List.flatMap_cons, List.getElem?_append_right (by rw [hs]; rw [Nat.succ_mul]; omega), hs]
  rw [show (k + 1) * s + j - s = k * s + j by rw [Nat.succ_mul]; omega]; exact ih
theorem flat_len4 : ∀ l : List Co, (l.flatMap coB).length = 4 * l.length
 | [] => rfl
 | x :: l => by
  have := flat_len4 l
  rw [List.flatMap_cons, List.length_append, this, List.length_cons]; show 4 + _ = _; omega
theorem px1_len (x : Co) : (Ns x).length = 4 := rfl
theorem st1_len (x : Int × Co) : (P3 x).length = 5 := rfl
theorem L6.reads {w : World} {A : Option Addr} {n : Nat} {ls : WS} (h : L6 w A n ls) : Nm w w.heap.size 1 A n (sv ls) := by
 refine ⟨by simp [sv, h.1], fun h0 => ?_⟩
 obtain ⟨s, hs⟩ : ∃ s, ls[0]? = some s := ⟨_, List.getElem?_eq_getElem (by rw [h.1]; exact h0)⟩
 obtain ⟨ad, hA, hc⟩ := h.2 0 s hs
 refine ⟨ad, hA, ?_, fun j u hj => ?_⟩
 ·have := cell_lt hc
  simpa [Addr.add] using this
 ·simp only [sv, List.getElem?_map] at hj
  obtain ⟨x, hx, rfl⟩ := Option.map_eq_some_iff.1 hj
  obtain ⟨ad2, hA2, hc2⟩ := h.2 j x hx
  rw [hA] at hA2; cases hA2
  exact hc2
theorem app_litG {w : World} {N gb n m cc : Nat} {A2 : Option Addr} {p l : WS} (hg : L8 9 (sv p).toArray gb w) (hn : p.length = n) (hr : L6 w A2 m l) (hm : 0 < m) (hk : n + m ≤ 1000000) (hB : N ≤ w.heap.size) :
 M6 Tryz.prog w (fun y : Option Addr × Nat => .slice y.1 (n + m) y.2) (fun y v => K6 v N 9 1 y.1 (n + m) y.2 (sv (p ++ l))) (M2 64 64 (Ki n gb) (.slice A2 m cc)) := by
 have hr2 := hr.reads
 obtain ⟨ad, hA, _⟩ := hr2.2 hm
 subst hA
 have ha := appendG_m (P := Tryz.prog) (B := N) (s := 1) (z := .string ⟨#[]⟩) (bytes := 16) (n := n) (m := m) (c := n) (cc := cc) (t := 64) (elem := 9) Zk Zk rfl Zd (M5 (n := n) hg (by simp [sv, hn])) hr2 Zo Zo Zd hB (by by_cases h0 : 0 < n; exact .inl h0; right; have : p = [] := List.length_eq_zero_iff.1 Zo; rw [this]; rfl) (.inl hm)
 have e : sv (p ++ l) = sv p ++ sv l := by simp [sv]
 rw [e]; exact ha
theorem Nd {w : World} {B m n yc cc : Nat} {y A2 : Option Addr} {p l : WS} (ho : K6 w B 9 1 y m yc (sv p)) (hB : B ≤ w.heap.size) (hr : L6 w A2 n l) (hm : m + n ≤ 1000000) :
 Q8 Tryz.prog w (bl y) (fun z : Option Addr × Nat => .slice z.1 (m + n) z.2) (fun z v => K6 v B 9 1 z.1 (m + n) z.2 (sv (p ++ l))) (M2 64 64 (.slice y m yc) (.slice A2 n cc)) := by
 have ha := Ms (P := Tryz.prog) (s := 1) (z := .string ⟨#[]⟩) (bytes := 16) (m := n) (cc := cc) (t := 64) (elem := 9) Zk Zk rfl Zd ho hB hr.reads (by intro v hv; simp [sv] at hv; obtain ⟨x, _, rfl⟩ := hv; rfl) Zo Zd
 have e : sv (p ++ l) = sv p ++ sv l := by simp [sv]
 rw [e]; exact ha
section
variable {w : World} {A : Option Addr} {n c K : Nat} {px : List Co}
theorem app_b4 {B m yc gb : Nat} {y : Option Addr} {p : List UInt8} {x : Co} (ho : K6 w B 5 1 y m yc (bv p)) (hB : B ≤ w.heap.size) (hg : L8 5 (Ns x).toArray gb w) (hm : m < 1000000) :
 Q8 Tryz.prog w (bl y) (fun z : Option Addr × Nat => .slice z.1 (m + 4) z.2) (fun z v => K6 v B 5 1 z.1 (m + 4) z.2 (bv (p ++ coB x))) (M2 137 137 (.slice y m yc) (Ki 4 gb)) := by
 have ha := Ms (P := Tryz.prog) (s := 1) (z := .int .u8 0) (bytes := 1) (m := 4) (cc := 4) (t := 137) (elem := 5) Zk Zk rfl Zd ho hB (M5 (n := 4) hg rfl) (by intro v hv; simp [Ns] at hv; rcases hv with rfl | rfl | rfl | rfl <;> rfl) Zo Zd
 have e : bv (p ++ coB x) = bv p ++ Ns x := by simp [bv, coB, Ns]
 rw [e]; exact ha
theorem px_idx {k : Nat} {ad : Addr} (hA : A = some ad) (hk : k < n) : (Kx 27 (.slice A n c) k).run Tryz.prog w = .ok (.value (.pointer (some (ad.add (k * 4))))) w := by
 rw [hA]; exact Pt (elem := 127) Zk Zk hk
theorem px_ld {ad : Addr} {x : Co} (h : ∀ j v, (Ns x)[j]? = some v → w.cell? (ad.add j) = some v) : (Ln 127 ad).run Tryz.prog w = .ok (.value (.agg (Ns x).toArray)) w :=
 run_ldA Zk Zk h
theorem st_idx {k : Nat} {ad : Addr} (hA : A = some ad) (hk : k < n) : (Kx 26 (.slice A n c) k).run Tryz.prog w = .ok (.value (.pointer (some (ad.add (k * 5))))) w := by
 rw [hA]; exact Pt (elem := 104) Zk Zk hk
theorem st_ld {ad : Addr} {x : Int × Co} (h : ∀ j v, (P3 x)[j]? = some v → w.cell? (ad.add j) = some v) : (Ln 104 ad).run Tryz.prog w = .ok (.value (.agg (P3 x).toArray)) w :=
 run_ldA Zk Zk h
theorem hex_m (hp : Qg w A n 4 Ns px) (hn : n ≤ 20000) : Calls Tryz.prog 116 #[.slice A n c] w (K5 w (fun _ : Unit => K4 (hexW px)) fun _ _ => True) := by
 have hpn := hp.1
 refine K0.enter Tryz.func116 rfl ?_
 refine ZR ?_
 refine K0.loop (ι := {q : Nat × (Option Addr × Nat) // q.1 ≤ n}) 26 (fun q => ⟨[(0, .v (.slice A n c)), (3, .v (.slice q.1.2.1 (4 * q.1.1) q.1.2.2)), (6, .v (.slice A n c)), (7, .v (.int .i64 n)), (8, .v (.int .i64 q.1.1))], []⟩) (fun q u => K6 u w.heap.size 5 1 q.1.2.1 (4 * q.1.1) q.1.2.2 (bv ((px.take q.1.1).flatMap coB))) (fun q => n - q.1.1) (⟨(0, none, 0), Nat.zero_le _⟩) Zk (fun _ => by kernel_rfl) ⟨Zk, Zk, Zk⟩ (fun u h => K6.nil_) ?_
 rintro ⟨⟨k, y, yc⟩, hk⟩ gg
 have hk : k ≤ n := hk
 by_cases hlt : k < n
 case neg =>
  obtain rfl : k = n := by omega
  have hfull : px.take k = px := List.take_of_length_le Zo
  refine ZR ?_
  refine ZJ (decide ((k : Int) < (k : Int))) false Zs ?_
  refine K0.leave Zk ?_
  refine ZR ?_
  refine ZC (fun w1 hw h => xencode_m (A := y) (n := 4 * k) (c := yc) (bs := px.flatMap coB) (by have hl : 4 * k = (px.flatMap coB).length := (by rw [flat_len4, hpn]); have h2 : K6 w1 w.heap.size 5 1 y (4 * k) yc (bv (px.flatMap coB)) := (by rw [← hfull]; exact h); rw [hl] at h2 ⊢; exact K6.bytes h2) Zo) fun u => ?_
  exact ZW (K4 (hexW px))
 obtain ⟨x, hx⟩ : ∃ x, px[k]? = some x := ⟨_, List.getElem?_eq_getElem Zo⟩
 obtain ⟨ad, hA, hc⟩ := hp.2 k x hx
 have hstep : (px.take (k + 1)).flatMap coB = (px.take k).flatMap coB ++ coB x := by rw [List.take_add_one, hx]; simp
 obtain ⟨p, hp'⟩ : ∃ p, p = (px.take k).flatMap coB := ⟨_, rfl⟩
 refine ZR ?_
 refine ZJ (decide ((k : Int) < (n : Int))) true Zp ?_
 refine ZA (Kx 27 (.slice A n c) k) (.pointer (some (ad.add (k * 4)))) (fun w1 hw h => px_idx hA hlt) ?_
 refine K0.ask (Ln 127 (ad.add (k * 4))) (.agg (Ns x).toArray) Zk (fun w1 hw h => px_ld fun j v hj => Mw hw (hc j v hj)) ?_
 refine ZS 9 ?_
 refine K0.make (Li (137) 4 #[(0, .int .u8 (x.1.toNat : Int)), (1, .int .u8 (x.2.1.toNat : Int)), (2, .int .u8 (x.2.2.1.toNat : Int)), (3, .int .u8 (x.2.2.2.toNat : Int))]) (Ki 4) (L8 5 (Ns x).toArray) Zk (fun w1 hw h => Kb Zk) (fun gb => ?_)
 refine ZS 10 ?_
 refine K0.mutOp (L := bl y) (val := fun (z : Option Addr × Nat) => .slice z.1 (4 * k + 4) z.2) (Φ' := fun (z : Option Addr × Nat) v => K6 v w.heap.size 5 1 z.1 (4 * k + 4) z.2 (bv (p ++ coB x))) (G := fun (z : Option Addr × Nat) v => K6 v w.heap.size 5 1 z.1 (4 * k + 4) z.2 (bv (p ++ coB x))) (M2 137 137 (.slice y (4 * k) yc) (Ki 4 gb)) (fun w1 hw h => by have ho : K6 w1 w.heap.size 5 1 y (4 * k) yc (bv p) := (by rw [hp']; exact h.1); exact app_b4 ho hw.size h.2 Zo) (fun w1 h => fun b hb => ⟨((show K6 w1 w.heap.size 5 1 y (4 * k) yc (bv p) from (by rw [hp']; exact h.1)).lt b hb).1, ((show K6 w1 w.heap.size 5 1 y (4 * k) yc (bv p) from (by rw [hp']; exact h.1)).blk b hb).2⟩) (fun z wa wb e1 e2 h hG => hG) Zk Zk (fun z => ?_)
 refine ZR ?_
 refine K0.slot 8 (.int .i64 (IntKind.i64.wrap ((k : Int) + 1))) (.int .i64 ((k + 1 : Nat) : Int)) Zk (by rw [Kf hlt Zo]) ?_
 refine K0.next (⟨(k + 1, z.1, z.2), by show k + 1 ≤ n; omega⟩) Zk (by show n - (k + 1) < n - k; omega) ⟨Zk, Zk, Zk⟩ (fun u h => (by show K6 u w.heap.size 5 1 z.1 (4 * (k + 1)) z.2 (bv ((px.take (k + 1)).flatMap coB)); rw [hstep, ← hp', show 4 * (k + 1) = 4 * k + 4 by omega]; exact h))
theorem imageWords_m {m : Im} {y : Option Addr × Nat} (hp : Qg w y.1 m.px.length 4 Ns m.px) (hn : m.px.length ≤ 20000) (h1 : -9223372036854775808 ≤ m.w ∧ m.w ≤ 9223372036854775807) (h2 : -9223372036854775808 ≤ m.h ∧ m.h ≤ 9223372036854775807) : Calls Tryz.prog 54 #[imV m y] w (K5 w (fun y : Option Addr × Nat => .slice y.1 3 y.2) fun y u => L6 u y.1 3 (imW m)) := by
 refine K0.enter Tryz.func54 rfl ?_
 refine ZR ?_
 refine ZC (fun w1 hw h => M3 (n := m.w) h1.1 h1.2) fun u0 => ?_
 refine ZC (fun w1 hw h => M3 (n := m.h) h2.1 h2.2) fun u1 => ?_
 refine ZD 9 (fun w1 hw h => hex_m (c := y.2) (hp.below hw) hn) fun u2 => ?_
 refine K0.make (Li (64) 3 #[(0, K4 (K7 m.w)), (1, K4 (K7 m.h)), (2, K4 (hexW m.px))]) (Ki 3) (L8 9 #[K4 (K7 m.w), K4 (K7 m.h), K4 (hexW m.px)]) Zk (fun w1 hw h => Kb Zk) (fun gb => ?_)
 refine ZR ?_
 refine ZV (.slice (some ⟨gb, 0, none⟩) 3 3) (fun w1 hw h => ⟨(some ⟨gb, 0, none⟩, 3), rfl, hw, fun w'' k1 k2 => Lv (L := imW m) (h w'' k1 k2).2 rfl⟩)
end
section
variable {ws l : WS} {x y : Q7}
theorem rdN_cons {f : Bool} {s : List UInt8} {v : WS} : rdN f (s :: v) = if piE s = 0 then some (piV s, v, f) else if piE s = 6 then some (0, v, true) else none := by
 unfold rdN
 rw [Ou, prg_full.1, prg_full.2]
 split
 ·rfl
 ·split <;> rfl
theorem rdC_cons {f : Bool} {s : List UInt8} {v : WS} : rdC f (s :: v) = (Qf s).map fun c => (c, v, f) := rfl
theorem rdS_cc {f : Bool} {s d : List UInt8} {r : WS} : rdS f (s :: d :: r) = (rdN f [s]).bind fun x => (Qf d).bind fun k => (rdS x.2.2 r).map fun l => ((x.1, k) :: l.1, l.2) := by rw [rdS]
theorem rdS_step {v r : WS} {z : Int} {k : Co} (h1 : rdN false ws = some (z, v, false)) (h2 : rdC false v = some (k, r, false)) : rdS false ws = (rdS false r).map fun l => ((z, k) :: l.1, l.2) := by
 cases ws with
 | nil => cases h1
 | cons s ws =>
  rw [rdN_cons] at h1
  split at h1
  ·rename_i h0
   simp only [Option.some.injEq, Prod.mk.injEq, and_true] at h1
   obtain ⟨rfl, rfl⟩ := h1
   cases ws with
   | nil => cases h2
   | cons c r' =>
    rw [rdC_cons] at h2
    obtain ⟨k', h3, h4⟩ := Option.map_eq_some_iff.1 h2
    simp only [Prod.mk.injEq, and_true] at h4
    obtain ⟨rfl, rfl⟩ := h4
    rw [rdS_cc, rdN_cons, if_pos h0]
    simp only [Option.bind_some, h3]
  ·split at h1 <;> cases h1
theorem rdS_inv {l : List (Int × Co)} (h : rdS false ws = some (l, false)) (hne : ws ≠ []) : ∃ z v k r l', rdN false ws = some (z, v, false) ∧ rdC false v = some (k, r, false) ∧ rdS false r = some (l', false) ∧ l = (z, k) :: l' := by
 match ws, h, hne with
 | [], _, hne => exact absurd rfl hne
 | [s], h, _ => unfold rdS at h; cases h
 | s :: c :: r, h, _ =>
  unfold rdS at h
  obtain ⟨⟨z, r1, f1⟩, h1, h⟩ := Option.bind_eq_some_iff.1 h
  obtain ⟨k, h2, h⟩ := Option.bind_eq_some_iff.1 h
  obtain ⟨⟨l', f2⟩, h3, h⟩ := Option.map_eq_some_iff.1 h
  simp only [Prod.mk.injEq] at h
  obtain ⟨rfl, rfl⟩ := h
  obtain ⟨rfl, _⟩ := rdS_clean h3
  rw [rdN_cons] at h1
  refine ⟨z, c :: r, k, r, l', ?_, by rw [rdC_cons, h2]; rfl, h3, rfl⟩
  rw [rdN_cons]
  split at h1
  ·rename_i h0
   simp only [Option.some.injEq, Prod.mk.injEq] at h1
   rw [if_pos h0, h1.1]
  ·split at h1 <;> cases h1
theorem fld_up (h : x.i < ws.length) : (Kv ws x).2.i = x.i + 1 := by
 obtain ⟨s, hs⟩ : ∃ s, ws[x.i]? = some s := ⟨_, List.getElem?_eq_getElem h⟩
 rw [fld_some hs]
theorem fld_ge : x.i ≤ (Kv ws x).2.i := by
 unfold Kv
 split
 ·exact Nat.le_refl _
 ·exact Nat.le_succ _
theorem num_i : (Pf ws x).2.i = (Kv ws x).2.i := rfl
theorem col_i : (colR ws x).2.i = (Kv ws x).2.i := by
 unfold colR; split <;> rfl
def SimE {α : Type} (ws : WS) (x : Q7) (o : Option (α × Bool)) (p : α × Q7) : Prop :=
 (p.2.ok → p.2.i = ws.length → x.ok ∧ o = some (p.1, false)) ∧ ∀ z, x.ok → x.i ≤ ws.length → o = some (z, false) → p.2.ok ∧ p.2.i = ws.length ∧ p.1 = z
theorem st_sim : ∀ (n : Nat) (x : Q7) (acc : List (Int × Co)), ws.length - x.i ≤ n →
 ((stR ws n x acc).2.ok → (stR ws n x acc).2.i = ws.length → x.ok ∧ ∃ l, rdS false (ws.drop x.i) = some (l, false) ∧ (stR ws n x acc).1 = acc ++ l) ∧
 (∀ l, x.ok → x.i ≤ ws.length → rdS false (ws.drop x.i) = some (l, false) → (stR ws n x acc).2.ok ∧ (stR ws n x acc).2.i = ws.length ∧ (stR ws n x acc).1 = acc ++ l) := by
 have base : ∀ (x : Q7) (acc : List (Int × Co)), ¬ (x.i < ws.length ∧ x.syn = false) →
  (x.ok → x.i = ws.length → x.ok ∧ ∃ l, rdS false (ws.drop x.i) = some (l, false) ∧ acc = acc ++ l) ∧
  (∀ l, x.ok → x.i ≤ ws.length → rdS false (ws.drop x.i) = some (l, false) → x.ok ∧ x.i = ws.length ∧ acc = acc ++ l) := fun x acc hc => by
  refine ⟨fun h1 h2 => ⟨h1, [], ?_, by simp⟩, fun l h1 h2 h3 => ?_⟩
  ·rw [List.drop_eq_nil_of_le Zo]; unfold rdS; rfl
  ·have h4 : x.i = ws.length := by
    rcases Nat.lt_or_ge x.i ws.length with h5 | h5
    ·exact absurd ⟨h5, h1.1⟩ hc
    ·omega
   rw [List.drop_eq_nil_of_le Zo] at h3
   unfold rdS at h3
   simp only [Option.some.injEq, Prod.mk.injEq, and_true] at h3
   subst h3
   exact ⟨h1, h4, by simp⟩
 intro n
 induction n with
 | zero => exact fun x acc hn => base x acc (fun hc => by have := hc.1; omega)
 | succ n ih =>
  intro x acc hn
  by_cases hc : x.i < ws.length ∧ x.syn = false
  case neg =>
   have e : stR ws (n + 1) x acc = (acc, x) := by
    show (if _ then _ else _) = _
    rw [if_neg hc]
   rw [e]; exact base x acc hc
  obtain ⟨a, ha⟩ : ∃ a, a = Pf ws x := ⟨_, rfl⟩
  obtain ⟨b, hb⟩ : ∃ b, b = colR ws a.2 := ⟨_, rfl⟩
  have e : stR ws (n + 1) x acc = stR ws n b.2 (acc ++ [(a.1, b.1)]) := by
   show (if _ then _ else _) = _
   rw [if_pos hc, hb, ha]
  have sa : Sim ws x (rdN false (ws.drop x.i)) a := by rw [ha]; exact num_sim
  have sb : Sim ws a.2 (rdC false (ws.drop a.2.i)) b := by rw [hb]; exact col_sim
  have ia : a.2.i = x.i + 1 := by rw [ha, num_i, fld_up hc.1]
  have ib : a.2.i ≤ b.2.i := by rw [hb, col_i]; exact fld_ge
  obtain ⟨i1, i2⟩ := ih b.2 (acc ++ [(a.1, b.1)]) Zo
  rw [e]
  refine ⟨fun h1 h2 => ?_, fun l h1 h2 h3 => ?_⟩
  ·obtain ⟨k1, l, k2, k3⟩ := i1 h1 h2
   obtain ⟨k4, k5, _⟩ := sb.1 k1
   obtain ⟨k6, k7, _⟩ := sa.1 k4
   refine ⟨k6, (a.1, b.1) :: l, ?_, by rw [k3]; simp⟩
   rw [rdS_step k7 k5, k2]; rfl
  ·obtain ⟨z, v, k, r, l', k1, k2, k3, rfl⟩ := rdS_inv h3 (by intro hc2; have := List.drop_eq_nil_iff.1 hc2; omega)
   obtain ⟨m1, rfl, rfl⟩ := sa.get h1 k1
   obtain ⟨m2, rfl, rfl⟩ := sb.get m1 k2
   obtain ⟨n1, n2, n3⟩ := i2 l' m2 ((sb.1 m2).2.2) k3
   exact ⟨n1, n2, by rw [n3]; simp⟩
theorem stops_sim : SimE ws x (rdS false (ws.drop x.i)) (Pk ws x) := by
 obtain ⟨h1, h2⟩ := st_sim (ws := ws) ws.length x [] Zo
 refine ⟨fun k1 k2 => ?_, fun z k1 k2 k3 => ?_⟩
 ·obtain ⟨m1, l, m2, m3⟩ := h1 k1 k2
  refine ⟨m1, ?_⟩
  rw [m2]; unfold Pk; rw [m3]; rfl
 ·obtain ⟨m1, m2, m3⟩ := h2 z k1 k2 k3
  exact ⟨m1, m2, by unfold Pk; rw [m3]; rfl⟩
theorem lin_sim : SimE ws x (rdLin false (ws.drop x.i)) (linR ws x) := by
 obtain ⟨p, hp⟩ : ∃ p, p = ptR ws x := ⟨_, rfl⟩
 obtain ⟨q, hq⟩ : ∃ q, q = ptR ws p.2 := ⟨_, rfl⟩
 obtain ⟨k, hk⟩ : ∃ k, k = Q5 ws Kq q.2 := ⟨_, rfl⟩
 obtain ⟨t, ht⟩ : ∃ t, t = afR ws k.2 := ⟨_, rfl⟩
 obtain ⟨l, hl⟩ : ∃ l, l = Pk ws t.2 := ⟨_, rfl⟩
 have e : linR ws x = (⟨2, Pp, p.1.1, p.1.2, q.1.1, q.1.2, 0, l.1, k.1, im0, 0, t.1⟩, l.2) := by rw [hl, ht, hk, hq, hp]; rfl
 have s1 : Sim ws x (rdP2 false (ws.drop x.i)) p := by rw [hp]; exact pt_sim
 have s2 : Sim ws p.2 (rdP2 false (ws.drop p.2.i)) q := by rw [hq]; exact pt_sim
 have s3 : Sim ws q.2 (rdW Kq 0 false (ws.drop q.2.i)) k := by rw [hk]; exact cho_sim Zd
 have s4 : Sim ws k.2 (rdA false (ws.drop k.2.i)) t := by rw [ht]; exact af_sim
 have s5 : SimE ws t.2 (rdS false (ws.drop t.2.i)) l := by rw [hl]; exact stops_sim
 rw [e]
 refine ⟨fun h1 h2 => ?_, fun z h1 h2 h3 => ?_⟩
 ·obtain ⟨a5, b5⟩ := s5.1 h1 h2
  obtain ⟨a4, b4, _⟩ := s4.1 a5
  obtain ⟨a3, b3, _⟩ := s3.1 a4
  obtain ⟨a2, b2, _⟩ := s2.1 a3
  obtain ⟨a1, b1, _⟩ := s1.1 a2
  refine ⟨a1, ?_⟩
  unfold rdLin
  rw [b1]; simp only [Option.bind_some]
  rw [b2]; simp only [Option.bind_some]
  rw [b3]; simp only [Option.bind_some]
  rw [b4]; simp only [Option.bind_some]
  rw [b5]; rfl
 ·unfold rdLin at h3
  obtain ⟨⟨p', r1, f1⟩, k1, h3⟩ := Option.bind_eq_some_iff.1 h3
  obtain ⟨⟨q', r2, f2⟩, k2, h3⟩ := Option.bind_eq_some_iff.1 h3
  obtain ⟨⟨n', r3, f3⟩, k3, h3⟩ := Option.bind_eq_some_iff.1 h3
  obtain ⟨⟨t', r4, f4⟩, k4, h3⟩ := Option.bind_eq_some_iff.1 h3
  obtain ⟨⟨l', f5⟩, k5, h3⟩ := Option.map_eq_some_iff.1 h3
  simp only [Prod.mk.injEq] at h3
  obtain ⟨rfl, rfl⟩ := h3
  obtain ⟨rfl, _⟩ := rdS_clean k5
  obtain ⟨rfl, _⟩ := rdA_clean k4
  obtain ⟨rfl, _⟩ := rdW_clean k3
  obtain ⟨rfl, _⟩ := rdP2_clean k2
  obtain ⟨m1, rfl, rfl⟩ := s1.get h1 k1
  obtain ⟨m2, rfl, rfl⟩ := s2.get m1 k2
  obtain ⟨m3, rfl, rfl⟩ := s3.get m2 k3
  obtain ⟨m4, rfl, rfl⟩ := s4.get m3 k4
  obtain ⟨m5, m6, rfl⟩ := s5.2 _ m4 (s4.1 m4).2.2 k5
  exact ⟨m5, m6, rfl⟩
theorem rad_sim : SimE ws x (rdRad false (ws.drop x.i)) (radR ws x) := by
 obtain ⟨p, hp⟩ : ∃ p, p = ptR ws x := ⟨_, rfl⟩
 obtain ⟨q, hq⟩ : ∃ q, q = Pf ws p.2 := ⟨_, rfl⟩
 obtain ⟨k, hk⟩ : ∃ k, k = Q5 ws Kq q.2 := ⟨_, rfl⟩
 obtain ⟨t, ht⟩ : ∃ t, t = afR ws k.2 := ⟨_, rfl⟩
 obtain ⟨l, hl⟩ : ∃ l, l = Pk ws t.2 := ⟨_, rfl⟩
 have e : radR ws x = (⟨3, Pp, p.1.1, p.1.2, 0, 0, q.1, l.1, k.1, im0, 0, t.1⟩, l.2) := by rw [hl, ht, hk, hq, hp]; rfl
 have s1 : Sim ws x (rdP2 false (ws.drop x.i)) p := by rw [hp]; exact pt_sim
 have s2 : Sim ws p.2 (rdN false (ws.drop p.2.i)) q := by rw [hq]; exact num_sim
 have s3 : Sim ws q.2 (rdW Kq 0 false (ws.drop q.2.i)) k := by rw [hk]; exact cho_sim Zd
 have s4 : Sim ws k.2 (rdA false (ws.drop k.2.i)) t := by rw [ht]; exact af_sim
 have s5 : SimE ws t.2 (rdS false (ws.drop t.2.i)) l := by rw [hl]; exact stops_sim
 rw [e]
 refine ⟨fun h1 h2 => ?_, fun z h1 h2 h3 => ?_⟩
 ·obtain ⟨a5, b5⟩ := s5.1 h1 h2
  obtain ⟨a4, b4, _⟩ := s4.1 a5
  obtain ⟨a3, b3, _⟩ := s3.1 a4
  obtain ⟨a2, b2, _⟩ := s2.1 a3
  obtain ⟨a1, b1, _⟩ := s1.1 a2
  refine ⟨a1, ?_⟩
  unfold rdRad
  rw [b1]; simp only [Option.bind_some]
  rw [b2]; simp only [Option.bind_some]
  rw [b3]; simp only [Option.bind_some]
  rw [b4]; simp only [Option.bind_some]
  rw [b5]; rfl
 ·unfold rdRad at h3
  obtain ⟨⟨p', r1, f1⟩, k1, h3⟩ := Option.bind_eq_some_iff.1 h3
  obtain ⟨⟨q', r2, f2⟩, k2, h3⟩ := Option.bind_eq_some_iff.1 h3
  obtain ⟨⟨n', r3, f3⟩, k3, h3⟩ := Option.bind_eq_some_iff.1 h3
  obtain ⟨⟨t', r4, f4⟩, k4, h3⟩ := Option.bind_eq_some_iff.1 h3
  obtain ⟨⟨l', f5⟩, k5, h3⟩ := Option.map_eq_some_iff.1 h3
  simp only [Prod.mk.injEq] at h3
  obtain ⟨rfl, rfl⟩ := h3
  obtain ⟨rfl, _⟩ := rdS_clean k5
  obtain ⟨rfl, _⟩ := rdA_clean k4
  obtain ⟨rfl, _⟩ := rdW_clean k3
  obtain ⟨rfl, _⟩ := rdN_clean k2
  obtain ⟨m1, rfl, rfl⟩ := s1.get h1 k1
  obtain ⟨m2, rfl, rfl⟩ := s2.get m1 k2
  obtain ⟨m3, rfl, rfl⟩ := s3.get m2 k3
  obtain ⟨m4, rfl, rfl⟩ := s4.get m3 k4
  obtain ⟨m5, m6, rfl⟩ := s5.2 _ m4 (s4.1 m4).2.2 k5
  exact ⟨m5, m6, rfl⟩
theorem drop_endW {i : Nat} (h : ws.drop i = []) (h2 : i ≤ ws.length) : i = ws.length := by
 have := List.drop_eq_nil_iff.1 h; omega
theorem pat_sim : SimE ws x (rdPat false (ws.drop x.i)) (patR ws x) := by
 obtain ⟨p, hp⟩ : ∃ p, p = Q5 ws Kq x := ⟨_, rfl⟩
 obtain ⟨q, hq⟩ : ∃ q, q = Q5 ws ([] :: Mf) p.2 := ⟨_, rfl⟩
 obtain ⟨t, ht⟩ : ∃ t, t = afR ws q.2 := ⟨_, rfl⟩
 obtain ⟨l, hl⟩ : ∃ l, l = imR ws t.2 := ⟨_, rfl⟩
 have e : patR ws x = (⟨4, Pp, 0, 0, 0, 0, 0, [], p.1, l.1, q.1, t.1⟩, l.2) := by rw [hl, ht, hq, hp]; rfl
 have s1 : Sim ws x (rdW Kq 0 false (ws.drop x.i)) p := by rw [hp]; exact cho_sim Zd
 have s2 : Sim ws p.2 (rdW Mf 1 false (ws.drop p.2.i)) q := by rw [hq]; exact look_sim
 have s4 : Sim ws q.2 (rdA false (ws.drop q.2.i)) t := by rw [ht]; exact af_sim
 have s5 : Sim ws t.2 (rdIm false (ws.drop t.2.i)) l := by rw [hl]; exact im_sim
 rw [e]
 refine ⟨fun h1 h2 => ?_, fun z h1 h2 h3 => ?_⟩
 ·obtain ⟨a5, b5, _⟩ := s5.1 h1
  obtain ⟨a4, b4, _⟩ := s4.1 a5
  obtain ⟨a2, b2, _⟩ := s2.1 a4
  obtain ⟨a1, b1, _⟩ := s1.1 a2
  have h2 : l.2.i = ws.length := h2
  refine ⟨a1, ?_⟩
  unfold rdPat
  rw [b1]; simp only [Option.bind_some]
  rw [b2]; simp only [Option.bind_some]
  rw [b4]; simp only [Option.bind_some]
  rw [b5]; simp only [Option.bind_some]
  rw [if_pos (by rw [h2]; exact List.drop_length)]
 ·unfold rdPat at h3
  obtain ⟨⟨p', r1, f1⟩, k1, h3⟩ := Option.bind_eq_some_iff.1 h3
  obtain ⟨⟨q', r2, f2⟩, k2, h3⟩ := Option.bind_eq_some_iff.1 h3
  obtain ⟨⟨t', r4, f4⟩, k4, h3⟩ := Option.bind_eq_some_iff.1 h3
  obtain ⟨⟨l', r5, f5⟩, k5, h3⟩ := Option.bind_eq_some_iff.1 h3
  simp only at h3
  split at h3
  ·rename_i e2
   simp only [Option.some.injEq, Prod.mk.injEq] at h3
   obtain ⟨rfl, rfl⟩ := h3
   obtain ⟨rfl, _⟩ := rdIm_clean k5
   obtain ⟨rfl, _⟩ := rdA_clean k4
   obtain ⟨rfl, _⟩ := rdW_clean k2
   obtain ⟨m1, rfl, rfl⟩ := s1.get h1 k1
   obtain ⟨m2, rfl, rfl⟩ := s2.get m1 k2
   obtain ⟨m4, rfl, rfl⟩ := s4.get m2 k4
   obtain ⟨m5, rfl, rfl⟩ := s5.get m4 k5
   exact ⟨m5, drop_endW e2 (s5.1 m5).2.2, rfl⟩
  ·cases h3
theorem sol_sim : SimE ws x (rdSol false (ws.drop x.i)) ((⟨1, (colR ws x).1, 0, 0, 0, 0, 0, [], 0, im0, 0, Nw⟩, (colR ws x).2) : Pn × Q7) := by
 obtain ⟨c, hc⟩ : ∃ c, c = colR ws x := ⟨_, rfl⟩
 have s1 : Sim ws x (rdC false (ws.drop x.i)) c := by rw [hc]; exact col_sim
 rw [← hc]
 refine ⟨fun h1 h2 => ?_, fun z h1 h2 h3 => ?_⟩
 ·obtain ⟨a1, b1, _⟩ := s1.1 h1
  have h2 : c.2.i = ws.length := h2
  refine ⟨a1, ?_⟩
  unfold rdSol
  rw [b1]; simp only [Option.bind_some]
  rw [if_pos (by rw [h2]; exact List.drop_length)]
 ·unfold rdSol at h3
  obtain ⟨⟨c', r1, f1⟩, k1, h3⟩ := Option.bind_eq_some_iff.1 h3
  simp only at h3
  split at h3
  ·rename_i e2
   simp only [Option.some.injEq, Prod.mk.injEq] at h3
   obtain ⟨rfl, rfl⟩ := h3
   obtain ⟨m1, rfl, rfl⟩ := s1.get h1 k1
   exact ⟨m1, drop_endW e2 (s1.1 m1).2.2, rfl⟩
  ·cases h3
def kindN : WS := [[], Nj, Kp, Ku, Kn]
theorem pn_sim : SimE ws ⟨0, false, false⟩ (rdPn false ws) (pnR ws ⟨0, false, false⟩) := by
 obtain ⟨x, hx⟩ : ∃ x : Q7, x = ⟨0, false, false⟩ := ⟨_, rfl⟩
 rw [← hx]
 obtain ⟨k, hk⟩ : ∃ k, k = Q5 ws kindN x := ⟨_, rfl⟩
 have e : pnR ws x = (if k.1 = 1 then ((⟨1, (colR ws k.2).1, 0, 0, 0, 0, 0, [], 0, im0, 0, Nw⟩, (colR ws k.2).2) : Pn × Q7) else if k.1 = 2 then linR ws k.2 else if k.1 = 3 then radR ws k.2 else if k.1 = 4 then patR ws k.2 else (pn0, k.2)) := by rw [hk]; rfl
 rw [e]
 cases hf : ws[x.i]? with
 | none =>
  have hf' := fld_none hf
  have h0 : k = (0, ⟨x.i, true, x.rng⟩) := by rw [hk]; unfold Q5; rw [hf']; rfl
  have hw : ws = [] := by rw [hx] at hf; cases ws with
   | nil => rfl
   | cons a l => cases hf
  rw [h0]
  refine ⟨fun h1 h2 => absurd h1.1 Zs, fun z h1 h2 h3 => ?_⟩
  rw [hw] at h3; cases h3
 | some s =>
  have hf' := fld_some hf
  have hws : ∃ r, ws = s :: r := by rw [hx] at hf; cases ws with
   | nil => cases hf
   | cons a l => exact ⟨l, by simp at hf; rw [hf]⟩
  obtain ⟨r, hws⟩ := hws
  have hr : rdPn false ws = if s = Nj then rdSol false r else if s = Kp then rdLin false r else if s = Ku then rdRad false r else if s = Kn then rdPat false r else none := by rw [hws]; exact Pc _ _ _
  have hk2 : k = match choF kindN s with | some j => ((j : Int), (⟨x.i + 1, x.syn, x.rng⟩ : Q7)) | none => (0, ⟨x.i + 1, true, x.rng⟩) := by
   rw [hk]; unfold Q5; rw [hf']; cases choF kindN s <;> rfl
  have hd : ws.drop 1 = r := by rw [hws]; rfl
  have hlen : 1 ≤ ws.length := by rw [hws]; simp
  obtain ⟨x1, hx1⟩ : ∃ x1 : Q7, x1 = ⟨1, false, false⟩ := ⟨_, rfl⟩
  have hx1i : x1.i = 1 := by rw [hx1]
  have hx1o : x1.ok := by rw [hx1]; exact ⟨rfl, rfl⟩
  have hxo : x.ok := by rw [hx]; exact ⟨rfl, rfl⟩
  have go : ∀ (o : Option (Pn × Bool)) (p : Pn × Q7), SimE ws x1 o p → SimE ws x o p := fun o p h =>
   ⟨fun h1 h2 => ⟨hxo, (h.1 h1 h2).2⟩, fun z h1 h2 h3 => h.2 z hx1o (by rw [hx1i]; exact hlen) h3⟩
  have cs : ∀ j : Nat, choF kindN s = some j → k = ((j : Int), x1) := fun j hj => by
   rw [hk2, hj, hx1, hx]
  rw [hr]
  by_cases h1 : s = Nj
  ·subst h1
   rw [if_pos rfl, cs 1 Zd]
   have := sol_sim (ws := ws) (x := x1)
   rw [hx1i, hd] at this
   exact go _ _ this
  rw [if_neg h1]
  by_cases h2 : s = Kp
  ·subst h2
   rw [if_pos rfl, cs 2 Zd]
   have := lin_sim (ws := ws) (x := x1)
   rw [hx1i, hd] at this
   exact go _ _ this
  rw [if_neg h2]
  by_cases h3 : s = Ku
  ·subst h3
   rw [if_pos rfl, cs 3 Zd]
   have := rad_sim (ws := ws) (x := x1)
   rw [hx1i, hd] at this
   exact go _ _ this
  rw [if_neg h3]
  by_cases h4 : s = Kn
  ·subst h4
   rw [if_pos rfl, cs 4 Zd]
   have := pat_sim (ws := ws) (x := x1)
   rw [hx1i, hd] at this
   exact go _ _ this
  rw [if_neg h4]
  have hn : choF kindN s = none := by
   unfold choF
   by_cases h0 : s = []
   ·rw [if_pos h0]
   rw [if_neg h0]
   unfold kindN
   simp only [Nh]
   rw [if_neg (Ne.symm h0), if_neg (Ne.symm h1), if_neg (Ne.symm h2), if_neg (Ne.symm h3), if_neg (Ne.symm h4)]
   rfl
  have hk3 : k = (0, ⟨x.i + 1, true, x.rng⟩) := by rw [hk2, hn]
  rw [hk3]
  exact ⟨fun k1 k2 => absurd k1.1 Zs, fun z k1 k2 k3 => by cases k3⟩
end
def neP (t : TypeId) (x y : Operand) (u v : Value) : Sem Next := (do eqGuard .neq t x y u v; binOp .neq t u v) >>= fun v => pure (.value v)
theorem run_eqF {P : Program} {n : Nat} {xs ys : Array Value} {f : Field} {fs : List Field} {u v : Value} {b c : Bool} {w : World} (hn : f.name ≠ "_") (h1 : (part f.type xs f.offset).run P w = .ok u w) (h2 : (part f.type ys f.offset).run P w = .ok v w)
 (h3 : (Op.equalIn n f.type u v).run P w = .ok b w) (h4 : (Op.eqFields n xs ys fs).run P w = .ok c w) : (Op.eqFields n xs ys (f :: fs)).run P w = .ok (b && c) w := by
 simp only [Op.eqFields, Sem.run_bind, h1, h2, h3, Result.andThen_ok, hn, ne_eq, not_false_eq_true, if_true]
 cases b
 ·simp
 ·simp [h4]
theorem Mj {P : Program} {t : TypeId} {d : TypeDesc} {xs : Array Value} {off : Nat} {v : Value} {w : World} (hu : P.underlying t = some d) (hd : d.isRow = false) (hv : xs[off]? = some v) : (part t xs off).run P w = .ok v w := by
 have hag : (isAgg t).run P w = .ok false w := by unfold isAgg; rw [Sem.run_bind, run_underlying hu w]; cases d <;> first | rfl | cases hd
 simp only [part, Sem.run_bind, hag, Result.andThen_ok, Bool.false_eq_true, if_false, hv, Sem.run_pure]
section
variable {w : World}
def coEq (a b : Co) : Bool := ((a.1.toNat : Int) == (b.1.toNat : Int)) && (((a.2.1.toNat : Int) == (b.2.1.toNat : Int)) && (((a.2.2.1.toNat : Int) == (b.2.2.1.toNat : Int)) && (((a.2.2.2.toNat : Int) == (b.2.2.2.toNat : Int)) && true)))
theorem u8_inj {a b : UInt8} : ((a.toNat : Int) == (b.toNat : Int)) = decide (a = b) := by
 rw [Bool.eq_iff_iff, beq_iff_eq, decide_eq_true_iff, Int.ofNat_inj]
 exact UInt8.toNat_inj
theorem coEq_eq {a b : Co} : coEq a b = decide (a = b) := by
 obtain ⟨a1, a2, a3, a4⟩ := a
 obtain ⟨b1, b2, b3, b4⟩ := b
 unfold coEq
 rw [u8_inj, u8_inj, u8_inj, u8_inj, Bool.eq_iff_iff]
 simp
theorem eq_co (k : Nat) (a b : Co) : (Op.equalIn (k + 2) 23 (P8 a) (P8 b)).run Tryz.prog w = .ok (coEq a b) w := by
 have h1 : Tryz.prog.underlying 23 = some (.struct (Tryz.prog.fieldsOf 23)) := by kernel_rfl
 have h2 : Tryz.prog.stoodInHeld 23 = false := by kernel_rfl
 have hm : (Tryz.prog.fieldsOf 23).toList.map (fun f => (f.name, f.offset, f.type)) = [("R", 0, 5), ("G", 1, 5), ("B", 2, 5), ("A", 3, 5)] := by kernel_rfl
 have hu : Tryz.prog.underlying 5 = some (.int .u8) := by kernel_rfl
 obtain ⟨f0, r0, hf, k0, hm⟩ := List.map_eq_cons_iff.1 hm
 obtain ⟨f1, r1, hf1, k1, hm⟩ := List.map_eq_cons_iff.1 hm
 obtain ⟨f2, r2, hf2, k2, hm⟩ := List.map_eq_cons_iff.1 hm
 obtain ⟨f3, r3, hf3, k3, hm⟩ := List.map_eq_cons_iff.1 hm
 obtain rfl : r3 = [] := List.map_eq_nil_iff.1 hm
 subst hf3; subst hf2; subst hf1
 simp only [Prod.mk.injEq] at k0 k1 k2 k3
 obtain ⟨n0, o0, t0⟩ := k0
 obtain ⟨n1, o1, t1⟩ := k1
 obtain ⟨n2, o2, t2⟩ := k2
 obtain ⟨n3, o3, t3⟩ := k3
 have e0 : ∀ a b : Int, (Op.equalIn (k + 1) 5 (.int .u8 a) (.int .u8 b)).run Tryz.prog w = .ok (a == b) w := fun a b => run_equalIn_int w k _ .u8 .u8 a b hu
 show (Op.equalIn (k + 1 + 1) 23 (.agg _) (.agg _)).run Tryz.prog w = _
 rw [run_equalIn_struct w (k + 1) _ _ _ h1 h2, hf]
 refine run_eqF (by rw [n0]; decide) (by rw [t0, o0]; exact Mj hu rfl rfl) (by rw [t0, o0]; exact Mj hu rfl rfl) (by rw [t0]; exact e0 _ _) ?_
 refine run_eqF (by rw [n1]; decide) (by rw [t1, o1]; exact Mj hu rfl rfl) (by rw [t1, o1]; exact Mj hu rfl rfl) (by rw [t1]; exact e0 _ _) ?_
 refine run_eqF (by rw [n2]; decide) (by rw [t2, o2]; exact Mj hu rfl rfl) (by rw [t2, o2]; exact Mj hu rfl rfl) (by rw [t2]; exact e0 _ _) ?_
 refine run_eqF (by rw [n3]; decide) (by rw [t3, o3]; exact Mj hu rfl rfl) (by rw [t3, o3]; exact Mj hu rfl rfl) (by rw [t3]; exact e0 _ _) ?_
 simp [Op.eqFields]
theorem O9 {x y : Operand} {a b : Co} {B : Bool} (hB : decide (a = b) = B) : (eqP 23 x y (P8 a) (P8 b)).run Tryz.prog w = .ok (.value (.bool B)) w := by
 subst hB
 have h3 : Tryz.prog.eqGuardType Tryz.prog.depth 23 = false := by kernel_rfl
 have he := eq_co (w := w) 9998 a b
 rw [coEq_eq] at he
 simp only [eqP, Sem.run_bind, run_eqGuard_agg w .eql _ x y _ _ h3, Result.andThen_ok, run_eql_struct, Sem.run_pure] at he ⊢
 rw [he]
 rfl
theorem eq_px (k : Nat) (a b : Co) : (Op.equalIn (k + 2) 127 (P8 a) (P8 b)).run Tryz.prog w = .ok (coEq a b) w := by
 have h1 : Tryz.prog.underlying 127 = some (.struct (Tryz.prog.fieldsOf 127)) := by kernel_rfl
 have h2 : Tryz.prog.stoodInHeld 127 = false := by kernel_rfl
 have hm : (Tryz.prog.fieldsOf 127).toList.map (fun f => (f.name, f.offset, f.type)) = [("R", 0, 5), ("G", 1, 5), ("B", 2, 5), ("A", 3, 5)] := by kernel_rfl
 have hu : Tryz.prog.underlying 5 = some (.int .u8) := by kernel_rfl
 obtain ⟨f0, r0, hf, k0, hm⟩ := List.map_eq_cons_iff.1 hm
 obtain ⟨f1, r1, hf1, k1, hm⟩ := List.map_eq_cons_iff.1 hm
 obtain ⟨f2, r2, hf2, k2, hm⟩ := List.map_eq_cons_iff.1 hm
 obtain ⟨f3, r3, hf3, k3, hm⟩ := List.map_eq_cons_iff.1 hm
 obtain rfl : r3 = [] := List.map_eq_nil_iff.1 hm
 subst hf3; subst hf2; subst hf1
 simp only [Prod.mk.injEq] at k0 k1 k2 k3
 obtain ⟨n0, o0, t0⟩ := k0
 obtain ⟨n1, o1, t1⟩ := k1
 obtain ⟨n2, o2, t2⟩ := k2
 obtain ⟨n3, o3, t3⟩ := k3
 have e0 : ∀ a b : Int, (Op.equalIn (k + 1) 5 (.int .u8 a) (.int .u8 b)).run Tryz.prog w = .ok (a == b) w := fun a b => run_equalIn_int w k _ .u8 .u8 a b hu
 show (Op.equalIn (k + 1 + 1) 127 (.agg _) (.agg _)).run Tryz.prog w = _
 rw [run_equalIn_struct w (k + 1) _ _ _ h1 h2, hf]
 refine run_eqF (by rw [n0]; decide) (by rw [t0, o0]; exact Mj hu rfl rfl) (by rw [t0, o0]; exact Mj hu rfl rfl) (by rw [t0]; exact e0 _ _) ?_
 refine run_eqF (by rw [n1]; decide) (by rw [t1, o1]; exact Mj hu rfl rfl) (by rw [t1, o1]; exact Mj hu rfl rfl) (by rw [t1]; exact e0 _ _) ?_
 refine run_eqF (by rw [n2]; decide) (by rw [t2, o2]; exact Mj hu rfl rfl) (by rw [t2, o2]; exact Mj hu rfl rfl) (by rw [t2]; exact e0 _ _) ?_
 refine run_eqF (by rw [n3]; decide) (by rw [t3, o3]; exact Mj hu rfl rfl) (by rw [t3, o3]; exact Mj hu rfl rfl) (by rw [t3]; exact e0 _ _) ?_
 simp [Op.eqFields]
theorem run_eq_px {x y : Operand} {a b : Co} {B : Bool} (hB : decide (a = b) = B) : (eqP 127 x y (P8 a) (P8 b)).run Tryz.prog w = .ok (.value (.bool B)) w := by
 subst hB
 have h3 : Tryz.prog.eqGuardType Tryz.prog.depth 127 = false := by kernel_rfl
 have he := eq_px (w := w) 9998 a b
 rw [coEq_eq] at he
 simp only [eqP, Sem.run_bind, run_eqGuard_agg w .eql _ x y _ _ h3, Result.andThen_ok, run_eql_struct, Sem.run_pure] at he ⊢
 rw [he]
 rfl
theorem run_ne_px {x y : Operand} {a b : Co} {B : Bool} (hB : decide (a = b) = !B) : (neP 127 x y (P8 a) (P8 b)).run Tryz.prog w = .ok (.value (.bool B)) w := by
 have h3 : Tryz.prog.eqGuardType Tryz.prog.depth 127 = false := by kernel_rfl
 have he := eq_px (w := w) 9998 a b
 rw [coEq_eq, hB] at he
 simp only [neP, Sem.run_bind, run_eqGuard_agg w .neq _ x y _ _ h3, Result.andThen_ok, run_neq_struct, Sem.run_pure] at he ⊢
 rw [he]
 simp
theorem eq_stop (a b : Int × Co) : (Op.equalIn 10000 104 (.agg (P3 a).toArray) (.agg (P3 b).toArray)).run Tryz.prog w = .ok ((a.1 == b.1) && (coEq a.2 b.2 && true)) w := by
 have h1 : Tryz.prog.underlying 104 = some (.struct (Tryz.prog.fieldsOf 104)) := by kernel_rfl
 have h2 : Tryz.prog.stoodInHeld 104 = false := by kernel_rfl
 have hm : (Tryz.prog.fieldsOf 104).toList.map (fun f => (f.name, f.offset, f.type)) = [("Offset", 0, 3), ("Color", 1, 23)] := by kernel_rfl
 have hu : Tryz.prog.underlying 3 = some (.int .i64) := by kernel_rfl
 have huc : Tryz.prog.underlying 23 = some (.struct (Tryz.prog.fieldsOf 23)) := by kernel_rfl
 have hz : Of Tryz.prog 23 = some 4 := by kernel_rfl
 obtain ⟨f0, r0, hf, k0, hm⟩ := List.map_eq_cons_iff.1 hm
 obtain ⟨f1, r1, hf1, k1, hm⟩ := List.map_eq_cons_iff.1 hm
 obtain rfl : r1 = [] := List.map_eq_nil_iff.1 hm
 subst hf1
 simp only [Prod.mk.injEq] at k0 k1
 obtain ⟨n0, o0, t0⟩ := k0
 obtain ⟨n1, o1, t1⟩ := k1
 have hag : (isAgg 23).run Tryz.prog w = .ok true w := by unfold isAgg; rw [Sem.run_bind, run_underlying huc w]; rfl
 have pc : ∀ s : Int × Co, (part 23 (P3 s).toArray 1).run Tryz.prog w = .ok (P8 s.2) w := fun s => by
  simp only [part, Sem.run_bind, hag, Ls hz, Result.andThen_ok, if_true]; rfl
 show (Op.equalIn (9999 + 1) 104 (.agg _) (.agg _)).run Tryz.prog w = _
 rw [run_equalIn_struct w 9999 _ _ _ h1 h2, hf]
 refine run_eqF (by rw [n0]; decide) (by rw [t0, o0]; exact Mj hu rfl rfl) (by rw [t0, o0]; exact Mj hu rfl rfl) (by rw [t0]; exact run_equalIn_int w 9998 _ .i64 .i64 _ _ hu) ?_
 refine run_eqF (by rw [n1]; decide) (by rw [t1, o1]; exact pc a) (by rw [t1, o1]; exact pc b) (by rw [t1]; exact eq_co 9997 a.2 b.2) ?_
 simp [Op.eqFields]
theorem run_ne_stop {x y : Operand} {a b : Int × Co} {B : Bool} (hB : decide (a = b) = !B) : (neP 104 x y (.agg (P3 a).toArray) (.agg (P3 b).toArray)).run Tryz.prog w = .ok (.value (.bool B)) w := by
 have h3 : Tryz.prog.eqGuardType Tryz.prog.depth 104 = false := by kernel_rfl
 have he := eq_stop (w := w) a b
 have e : ((a.1 == b.1) && (coEq a.2 b.2 && true)) = !B := by
  rw [coEq_eq, ← hB, Bool.eq_iff_iff]
  simp [Prod.ext_iff]
 rw [e] at he
 simp only [neP, Sem.run_bind, run_eqGuard_agg w .neq _ x y _ _ h3, Result.andThen_ok, run_neq_struct, Sem.run_pure] at he ⊢
 rw [he]
 simp
end
structure PRd (P : Pn) (q : PM) (K : Nat) (w : World) : Prop where
 st : Qg w q.sA P.stops.length 5 P3 P.stops
 px : Qg w q.xA P.im.px.length 4 Ns P.im.px
 tr : IsA q.t P.T K w
theorem PRd.below {P : Pn} {q : PM} {K : Nat} {w w1 : World} (h : PRd P q K w) (hw : Below w.heap.size w w1) : PRd P q K w1 := ⟨h.st.below hw, h.px.below hw, h.tr.below hw⟩
theorem IsA.zero {K : Nat} {w : World} : IsA tv0 Nw K w := ⟨isq0, isq0, isq0, isq0, isq0, isq0⟩
theorem K6.rowA {α : Type} {w : World} {B n c s : Nat} {e : TypeId} {A : Option Addr} {cl : α → List Value} {l : List α} (hs : ∀ x, (cl x).length = s) (hl : l.length = n) (h : K6 w B e s A n c (l.flatMap cl)) : Qg w A n s cl l := by
 refine ⟨hl, fun k x hk => ?_⟩
 have hk2 := (List.getElem?_eq_some_iff.1 hk).1
 obtain ⟨g, hg, hc⟩ := h.cells Zo
 refine ⟨_, hg, fun j v hj => ?_⟩
 rw [addadd, Addr.add_mid, Nat.zero_add]
 exact hc _ _ (flat_get hs l k x j v hk hj)
theorem PAt.rd {N K : Nat} {P : Pn} {q : PM} {w : World} (h : PAt N P q w) (hK : 125 ≤ K) : PRd P q K w := by
 refine ⟨h.st.rowA st1_len rfl, h.px.rowA px1_len rfl, ?_⟩
 rcases h.tr with ⟨_, h1, h2⟩ | ⟨_, h⟩
 ·rw [h1, h2]; exact .zero
 ·exact ⟨h.a.1.q.mono hK, h.b.1.q.mono hK, h.c.1.q.mono hK, h.d.1.q.mono hK, h.e.1.q.mono hK, h.f.1.q.mono hK⟩
def stOK : Int → List (Int × Co) → Bool
 | _, [] => true
 | a, x :: l => decide (a ≤ x.1 ∧ x.1 ≤ 65536) && stOK x.1 l
def Mi (l : List (Int × Co)) : Bool := decide (1 ≤ l.length ∧ l.length ≤ 16) && stOK 0 l
def pxOK (c : Co) : Bool := decide (c.1 ≤ c.2.2.2 ∧ c.2.1 ≤ c.2.2.2 ∧ c.2.2.1 ≤ c.2.2.2)
def imOK (m : Im) : Bool := Pj m.w m.h && decide ((m.px.length : Int) = m.w * m.h) && m.px.all pxOK
def Qn (n : Int) : Bool := decide (1 ≤ n ∧ n ≤ 3)
def wof (P : Pn) : Pn :=
 if P.kind = 1 then { P with co := Pp, T := Nw }
 else if P.kind = 2 then { P with p0x := 0, p0y := 0, p1x := 0, p1y := 0, stops := [], spread := 0, T := Nw }
 else if P.kind = 3 then { P with p0x := 0, p0y := 0, rad := 0, stops := [], spread := 0, T := Nw }
 else if P.kind = 4 then { P with im := im0, spread := 0, samp := 0, T := Nw }
 else { P with T := Nw }
def zeroP (P : Pn) : Prop := P.co = Pp ∧ (P.p0x = 0 ∧ P.p0y = 0) ∧ (P.p1x = 0 ∧ P.p1y = 0) ∧ P.rad = 0 ∧ P.spread = 0 ∧ P.samp = 0 ∧ P.stops = [] ∧ (P.im.w = 0 ∧ P.im.h = 0 ∧ P.im.px = [])
instance (P : Pn) : Decidable (zeroP P) := decidable_of_iff (P.co = Pp ∧ (P.p0x = 0 ∧ P.p0y = 0) ∧ (P.p1x = 0 ∧ P.p1y = 0) ∧ P.rad = 0 ∧ P.spread = 0 ∧ P.samp = 0 ∧ P.stops = [] ∧ (P.im.w = 0 ∧ P.im.h = 0 ∧ P.im.px = [])) Iff.rfl
def kindOK (P : Pn) : Bool :=
 if P.kind = 1 then eqA P.T Nw
 else if P.kind = 2 then Mg P.p0x P.p0y && (Mg P.p1x P.p1y && ((Mi P.stops && Qn P.spread) && decide (P.T.det ≠ 0)))
 else if P.kind = 3 then Mg P.p0x P.p0y && (decide (1 ≤ P.rad ∧ P.rad ≤ 1048576) && ((Mi P.stops && Qn P.spread) && decide (P.T.det ≠ 0)))
 else if P.kind = 4 then imOK P.im && ((decide (P.spread = 0) || Qn P.spread) && (decide (P.samp = 1 ∨ P.samp = 2) && decide (P.T.det ≠ 0)))
 else false
def Lk (P : Pn) : Bool := P.T.ok && (decide (zeroP (wof P)) && kindOK P)
end Go.Proofs.YtncodmhgfkailaaGreatDoor
