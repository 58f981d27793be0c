/-
 Paints as text: the reader.
-/
import Derived.Test.YtdeepdckmhpldaaGreatDoorAUQ
import Derived.Test.YtdeepdckmhpldaaGreatDoorTA
import Derived.Test.YtdeepdckmhpldaaGreatDoorAO
import Derived.Recover
import Derived.Test.YtdeepdckmhpldaaGreatDoorVD
namespace Go.Proofs.YtdeepdckmhpldaaGreatDoor
set_option maxRecDepth 100000
set_option maxHeartbeats 8000000
set_option linter.unusedVariables false
set_option linter.unusedSimpArgs false
open Go.RowKit
abbrev WS := List (List UInt8)
abbrev Co := UInt8 × UInt8 × UInt8 × UInt8
def X6 (c : Co) : List UInt8 := [c.1, c.2.1, c.2.2.1, c.2.2.2]
structure Im where
 w : Int
 h : Int
 px : List Co
structure Pn where
 kind : Int
 co : Co
 p0x : Int
 p0y : Int
 p1x : Int
 p1y : Int
 rad : Int
 stops : List (Int × Co)
 spread : Int
 im : Im
 samp : Int
 T : Zm
def co0 : Co := (0, 0, 0, 0)
def im0 : Im := ⟨0, 0, []⟩
def Qc : Zm := ⟨0, 0, 0, 0, 0, 0⟩
def Mp : WS := [[110, 111, 110, 101], [112, 97, 100], [114, 101, 112, 101, 97, 116], [114, 101, 102, 108, 101, 99, 116]]
def P5 : WS := [[110, 101, 97, 114, 101, 115, 116], [98, 105, 108, 105, 110, 101, 97, 114]]
def Qr : List UInt8 := [115, 111, 108, 105, 100]
def Kx : List UInt8 := [108, 105, 110, 101, 97, 114]
def L9 : List UInt8 := [114, 97, 100, 105, 97, 108]
def Kw : List UInt8 := [112, 97, 116, 116, 101, 114, 110]
def Kd (l : WS) (frm : Int) (k : Int) : List UInt8 := (l[(k - frm).toNat]?).getD []
def Lp (T : Zm) : WS := [Ki T.a, Ki T.b, Ki T.c, Ki T.d, Ki T.e, Ki T.f]
def Na (c : Co) : List UInt8 := 35 :: Oq (X6 c)
def hexW (px : List Co) : List UInt8 := Oq (px.flatMap X6)
def Xy (m : Im) : WS := [K6 m.w, K6 m.h, hexW m.px]
def Tn (l : List (Int × Co)) : WS := l.flatMap fun x => [K6 x.1, Na x.2]
def O1 (P : Pn) : WS :=
 if P.kind = 1 then [Qr, Na P.co]
 else if P.kind = 4 then [Kw, Kd Mp 0 P.spread, Kd P5 1 P.samp] ++ Lp P.T ++ Xy P.im
 else if P.kind = 2 then [Kx, K6 P.p0x, K6 P.p0y, K6 P.p1x, K6 P.p1y, Kd Mp 0 P.spread] ++ Lp P.T ++ Tn P.stops
 else [L9, K6 P.p0x, K6 P.p0y, K6 P.rad, Kd Mp 0 P.spread] ++ Lp P.T ++ Tn P.stops
def mnI : Int := -9223372036854775808
def mxI : Int := 9223372036854775807
def rdI (lo hi : Int) (f : Bool) : WS → Option (Int × Bool × WS × Bool)
 | [] => none
 | s :: r => if Vh s lo hi = 0 then some (prgV s lo hi, true, r, f) else if Vh s lo hi = 6 then some (0, false, r, true) else none
def rdN (f : Bool) (ws : WS) : Option (Int × WS × Bool) := (rdI mnI mxI f ws).map fun x => (x.1, x.2.2.1, x.2.2.2)
def idxW (s : List UInt8) : WS → Option Nat
 | [] => none
 | x :: l => if x = s then some 0 else (idxW s l).map (· + 1)
def rdW (l : WS) (frm : Int) (f : Bool) : WS → Option (Int × WS × Bool)
 | [] => none
 | s :: r => (idxW s l).map fun (k : Nat) => (frm + (k : Int), r, f)
def colP (s : List UInt8) : Option Co :=
 if s.length = 9 ∧ s[0]? = some 35 then (match decL (s.drop 1) with
  | some [r, g, b, a] => some (r, g, b, a)
  | _ => none) else none
def rdC (f : Bool) : WS → Option (Co × WS × Bool)
 | [] => none
 | s :: r => (colP s).map fun c => (c, r, f)
theorem rdI_cons (lo hi : Int) (f : Bool) (s : List UInt8) (r : WS) : rdI lo hi f (s :: r) = if Vh s lo hi = 0 then some (prgV s lo hi, true, r, f) else if Vh s lo hi = 6 then some (0, false, r, true) else none := rfl
theorem idxW_cons (s x : List UInt8) (l : WS) : idxW s (x :: l) = if x = s then some 0 else (idxW s l).map (· + 1) := rfl
theorem colW_P {s : List UInt8} {c : Co} (h : colP s = some c) : Na c = s := by
 unfold colP at h
 split at h
 ·rename_i h0
  obtain ⟨h1, h2⟩ := h0
  split at h
  ·rename_i r g b a hd
   cases h
   have := encL_dec hd
   unfold Na
   show 35 :: Oq [r, g, b, a] = s
   rw [this]
   cases s with
   | nil => cases h2
   | cons x s => simp at h2; subst h2; rfl
  ·cases h
 ·cases h
structure RSt where
 i : Nat
 syn : Bool
 rng : Bool
def Vz (w h : Int) : Bool := decide (1 ≤ w ∧ w ≤ 4096 ∧ 1 ≤ h ∧ h ≤ 4096 ∧ w * h ≤ 65536)
def Z2 (w : World) (L : List Nat) (ch : List PanicEntry) (e : Ending) (w' : World) : Prop := e = .panicked ch ∧ Chg L w w'
def amPan (ch : List PanicEntry) (c : O5) : O5 := ⟨.out (.panic ch), c.k, c.st⟩
def TryPost {D X : Type} (w : World) (L : List Nat) (ch : List PanicEntry) (o : Option D) (val : D → X → Value) (G : D → X → World → Prop) (e : Ending) (w' : World) : Prop :=
 match o with
 | none => Z2 w L ch e w'
 | some d => Nn w L (val d) (G d) e w'
section
variable {P : Program} {Δ : List Deferred} {W : World} {Q : Exit → Act → World → Prop} {Φ Φ' : World → Prop} {c : O5}
theorem K0.mutx {L : List Nat} {g : FuncId} {args : Array Value} {ch : List PanicEntry}
 (hs : ∀ w, Below W.heap.size W w → Φ w → Calls P g args w (Z2 w L ch)) (hL : Own1 W L Φ) (hΦ : Left L Φ (fun _ => True) Φ')
 (hf : Xt c = true) (hc : Oh P c = some (g, args)) (h : K0 P Δ W Q Φ' (amPan ch c)) : K0 P Δ W Q Φ c := by
 obtain ⟨foc, k, σ⟩ := c
 replace h := h.get
 refine ⟨?_⟩
 unfold Oh at hc
 split at hc
 ·rename_i g' xs hn
  split at hc
  ·rename_i vs hv
   injection hc with hc
   injection hc with h1 h2
   subst h1; subst h2
   unfold Up at hn
   split at hn
   ·rename_i ops o ho
    split at hn
    ·rename_i hw
     unfold Pw at ho
     simp only at ho
     split at ho
     ·rename_i ops' i l
      cases hoi : ops'[i]? with
      | none => rw [hoi] at ho; cases ho
      | some o' =>
       rw [hoi] at ho
       simp only [Option.map_some, Option.some.injEq, Prod.mk.injEq] at ho
       obtain ⟨rfl, rfl⟩ := ho
       intro hwf β a w hr
       show wpOps P ops' (post P Q k) (i :: l) a w
       rw [wpOps_cons]
       unfold wpOp
       simp only [hoi, M1 hr, hw, if_true]
       refine .inl ?_
       unfold Oper.wp
       rw [acall_ok hn hr, Qy hv]
       refine Calls.mono (hs w hr.bel hr.phi) fun e w' he => ?_
       obtain ⟨rfl, hch⟩ := he
       exact h hwf β _ w' (hr.mut hL hch (fun _ _ _ => trivial) hΦ)
     ·cases hf
     ·cases ho
    ·cases hn
   ·cases hn
  ·cases hc
 ·cases hc
theorem K0.throw (s : Sem Next) (v : Value) (hc : P1 c = some s) (hs : ∀ w, Below W.heap.size W w → Φ w → s.run P w = .halt (.panic v) w)
 (hf : Xt c = true) (h : K0 P Δ W Q Φ (amPan [{ v, recovered := false }] c)) : K0 P Δ W Q Φ c := by
 obtain ⟨foc, k, σ⟩ := c
 replace h := h.get
 refine ⟨?_⟩
 unfold P1 at hc
 split at hc
 ·rename_i ops o ho
  split at hc
  ·cases hc
  ·cases hc
  ·rename_i hns hnm
   split at hc
   ·rename_i hw
    simp only [Bool.and_eq_true] at hw
    injection hc with hc
    subst hc
    unfold Pw at ho
    simp only at ho
    split at ho
    ·rename_i ops' i l
     cases hoi : ops'[i]? with
     | none => rw [hoi] at ho; cases ho
     | some o' =>
      rw [hoi] at ho
      simp only [Option.map_some, Option.some.injEq, Prod.mk.injEq] at ho
      obtain ⟨rfl, rfl⟩ := ho
      intro hwf β a w hr
      show wpOps P ops' (post P Q k) (i :: l) a w
      rw [wpOps_cons]
      unfold wpOp
      simp only [hoi, M1 hr, hw.1, if_true]
      refine .inl ?_
      have hrho : ∀ x ∈ o'.op.operands, a.eval x = σ.rho x := fun x hx => by
       rw [hr.eval, AV.conc_isV]; · rfl
       exact List.all_eq_true.1 hw.2 x (by simpa using hx)
      unfold Oper.wp
      rw [execOp_congr o' hns hrho, hs w hr.bel hr.phi]
      exact h hwf β _ w hr
    ·cases hf
    ·cases ho
   ·cases hc
 ·cases hc
theorem Xs {ch : List PanicEntry} {a : Act} {w : World} : ∀ k : List FrK, Q (.panic ch) a w → post P Q k (.panic ch) a w
 | [], h => h
 | .seq c :: k, h => Xs k h
 | .blk id :: k, h => Xs k h
 | .lp bd :: k, h => Xs k h
theorem K0.pan {fn : Func} {R : Ending → World → Prop} {ch : List PanicEntry} (h : ∀ w, Below W.heap.size W w → Φ w → R (.panicked ch) w) : K0 P [] W (bodyPost P fn R) Φ (amPan ch c) :=
 ⟨fun hwf β a w hr => Xs c.k ⟨hr.defers, h w hr.bel hr.phi⟩⟩
end
theorem Ka.stay {w u : World} {B g : Nat} {cs : List Value} (h : Ka w g cs) (hg : B ≤ g) (hs : ∀ b, B ≤ b → b < w.heap.size → u.heap[b]? = w.heap[b]?) : Ka u g cs := by
 obtain ⟨t, h⟩ := h
 exact ⟨t, (hs g hg (Array.getElem?_eq_some_iff.1 h).1).trans h⟩
theorem Ka.one {w : World} {g : Nat} {v : Value} (h : Ka w g [v]) : w.cell? ⟨g, 0, none⟩ = some v := by
 obtain ⟨t, h⟩ := h
 exact cell_one h
theorem Ka.lt {w : World} {g : Nat} {cs : List Value} (h : Ka w g cs) : g < w.heap.size := by
 obtain ⟨t, h⟩ := h
 exact (Array.getElem?_eq_some_iff.1 h).1
theorem Ka.own {w : World} {g : Nat} {cs : List Value} (h : Ka w g cs) : ∃ xs ty own, w.heap[g]? = some (.cells xs ty own) := by
 obtain ⟨t, h⟩ := h
 exact ⟨_, _, _, h⟩
theorem Ka.to {w u : World} {g : Nat} {cs : List Value} (h : Ka w g cs) (e : u.heap[g]? = w.heap[g]?) : Ka u g cs := by
 obtain ⟨t, h⟩ := h
 exact ⟨t, e.trans h⟩
theorem Ka.cell {w : World} {g j : Nat} {cs : List Value} (h : Ka w g cs) : w.cell? ⟨g, j, none⟩ = cs[j]? := by
 obtain ⟨t, h⟩ := h
 simp only [World.cell?, h, Option.isSome_none, Bool.false_eq_true, if_false]
 simp
theorem cell_to {w u : World} {p : Addr} {v : Value} (h : w.cell? p = some v) (e : u.heap[p.block]? = w.heap[p.block]?) : u.cell? p = some v := by
 unfold World.cell? at h ⊢
 rw [e]; exact h
theorem list_set_seg {α : Type} : ∀ (l : List α) (j : Nat) (v : α), j < l.length → l.take j ++ [v] ++ l.drop (j + 1) = l.set j v
 | [], j, v, h => absurd h (Nat.not_lt_zero _)
 | a :: l, 0, v, _ => by simp
 | a :: l, j + 1, v, h => by
  have ih := list_set_seg l j v (by simpa using h)
  simp only [List.take_succ_cons, List.drop_succ_cons, List.set_cons_succ, List.cons_append] at ih ⊢
  rw [ih]
theorem Ka.store1 {P : Program} {t : TypeId} {w : World} {g j : Nat} {cs : List Value} {v : Value} (h : Ka w g cs) (hn : O9 P t = some 1) (hl : v.cells.toList = [v]) (hj : j < cs.length) (h1 : v.oneCell' = true) :
 ∃ w', (stS t ⟨g, j, none⟩ v).run P w = .ok .skip w' ∧ Chg [g] w w' ∧ ∀ w'', w'.heap.size ≤ w''.heap.size → (∀ b ∈ [g], w''.heap[b]? = w'.heap[b]?) → Ka w'' g (cs.set j v) := by
 obtain ⟨ty, h⟩ := h
 have hst := run_storeCells_at P g j ty v.cells.toList 0 cs.toArray w h (by rw [hl]; simp; omega) (by intro u hu; rw [hl] at hu; rw [List.mem_singleton.1 hu]; exact h1)
 have hsz : v.cells.size = 1 := by have := congrArg List.length hl; simpa using this
 have hnew : ((cs.toArray.toList.take (j + 0) ++ v.cells.toList ++ cs.toArray.toList.drop (j + 0 + v.cells.toList.length)).toArray) = (cs.set j v).toArray := by
  rw [hl]
  have := list_set_seg cs j v hj
  simp only [List.length_cons, List.length_nil, Nat.add_zero, Nat.zero_add]
  rw [← this]
 rw [hnew] at hst
 refine ⟨w.setRow g (cs.set j v).toArray, ?_, ⟨rfl, rfl, rfl, by rw [Pt]; exact Nat.le_refl _, fun k _ hk => Oy _ _ _ _ (by simpa using hk)⟩, fun w'' k1 k2 => ⟨ty, ?_⟩⟩
 ·simp only [stS, Instr.storeAt, Instr.sureAddr, storeVar, Sem.run_bind, Sem.run_pure, Result.andThen_ok, Ln hn]
  rw [if_neg (by simpa using hsz)]
  simp only [hst, Sem.run_pure, Sem.run_bind, Result.andThen_ok]
 ·rw [k2 g Zs]
  simp only [World.setRow, Array.getElem?_modify, if_true, h, Option.map_some]
theorem Kj.left {w wa : World} {A : Option Addr} {n : Nat} {ws : List (List UInt8)} {L : List Nat} (h : Kj wa A n ws) (e2 : ∀ b, b ∉ L → wa.heap[b]? = w.heap[b]?) (hd : ∀ b ∈ bl A, b ∉ L) : Kj w A n ws :=
 ⟨h.1, fun k s hk => by
  obtain ⟨ad, h1, h2⟩ := h.2 k s hk
  exact ⟨ad, h1, cell_to h2 (e2 _ (hd _ (by rw [h1, show (ad.add k).block = ad.block from by unfold Addr.add; split <;> rfl]; simp [bl]))).symm⟩⟩
theorem cell_lt {w : World} {p : Addr} {v : Value} (h : w.cell? p = some v) : p.block < w.heap.size := by
 unfold World.cell? at h
 cases hb : w.heap[p.block]? with
 | none => simp [hb] at h
 | some o => exact (Array.getElem?_eq_some_iff.1 hb).1
def O6 : Value := .iface 105 (.agg #[])
def pch : List PanicEntry := [{ v := O6, recovered := false }]
theorem run_fromH {P : Program} {t e : TypeId} {A : Option Addr} {n c i : Nat} {w : World} (ht : P.underlying t = some (.slice e)) (he : P.elem t = e) (hs : O9 P e = some 1) (hi : i ≤ n) : (fromA t (.slice A n c) i).run P w = .ok (.value (.slice (if c = i then A else A.map (·.add i)) (n - i) (c - i))) w := by
 have h1 := run_slice_l (P := P) w t A n c (by rw [he]; exact ht) .i64 i Zo Zo
 have h2 := run_sliceAt_slice (P := P) w t (.slice A n c) (some (.int .i64 i)) none none (by rw [he]; exact ht)
 simp only [fromA, Sem.run_bind, h2, h1, he, Ln hs, Result.andThen_ok, Sem.run_pure]
 simp [sliced]
def Xg (k : Nat) (A : Option Addr) (c : Nat) : Option Addr := A.map (·.add (if k = c then k - 1 else k))
@[reducible] def rsl (A : Option Addr) (n c r : Nat) : Value := .slice (Xg (n - r) A c) r (c - (n - r))
theorem stepA_succ {k c : Nat} {A : Option Addr} (h : k < c) : (if c - k = 1 then Xg k A c else (Xg k A c).map (·.add 1)) = Xg (k + 1) A c := by
 unfold Xg
 rw [show (if k = c then k - 1 else k) = k from if_neg Zo]
 by_cases h1 : c - k = 1
 ·rw [if_pos h1, if_pos Zo]; rfl
 ·rw [if_neg h1, if_neg Zo]
  cases A with
  | none => rfl
  | some a => show some ((a.add k).add 1) = some (a.add (k + 1)); rw [Addr.add_add]
def But (W w : World) (g : Nat) (cs : List Value) (u : World) : Prop := w.heap.size ≤ u.heap.size ∧ (∀ b, W.heap.size ≤ b → b < w.heap.size → b ≠ g → u.heap[b]? = w.heap[b]?) ∧ Ka u g cs
section
variable {w W : World} {g n c m cx : Nat} {A Ax : Option Addr} {f : Bool} {s : List UInt8} {ws rest : WS}
theorem Nb {cs cs' : List Value} (lg : W.heap.size ≤ g) : ∀ u, But W w g cs u → ∀ b ∈ [g], W.heap.size ≤ b ∧ ∃ xs ty own, u.heap[b]? = some (.cells xs ty own) := fun u h b hb => by
 obtain rfl : b = g := by simpa using hb
 exact ⟨lg, h.2.2.own⟩
theorem Nj {cs cs' : List Value} (wa u : World) (e1 : wa.heap.size = u.heap.size) (e2 : ∀ b, b ∉ [g] → wa.heap[b]? = u.heap[b]?) (h : But W w g cs wa) (hG : Ka u g cs') : But W w g cs' u :=
 ⟨by rw [← e1]; exact h.1, fun b h1 h2 h3 => (e2 b (by simpa using h3)).symm.trans (h.2.1 b h1 h2 h3), hG⟩
theorem V2 {cs : List Value} (lg : W.heap.size ≤ g) (hb : Ka w g cs) (u : World) (h : w.heap.size ≤ u.heap.size ∧ ∀ b, W.heap.size ≤ b → b < w.heap.size → u.heap[b]? = w.heap[b]?) : But W w g cs u :=
 ⟨h.1, fun b h1 h2 _ => h.2 b h1 h2, hb.stay lg h.2⟩
theorem Pz {cs : List Value} {val : Value} {w1 : World} (hW : Below W.heap.size W w) (hw : Below W.heap.size W w1) (h : But W w g cs w1) : Nn w [g] (fun _ : Unit => val) (fun _ u => Ka u g cs) (.returned val) w1 :=
 ⟨(), rfl, ⟨hw.os.trans hW.os.symm, hw.tape.trans hW.tape.symm, hw.output.trans hW.output.symm, h.1, fun k hk hkl => by
  rcases Nat.lt_or_ge k W.heap.size with h4 | h4
  ·rw [hw.block k h4, hW.block k h4]
  ·exact h.2.1 k h4 hk fun e => hkl (by simp [e])⟩, fun w'' k1 k2 => h.2.2.to (k2 g (.inl Zs))⟩
theorem but_pan {cs : List Value} {ch : List PanicEntry} {w1 : World} (hW : Below W.heap.size W w) (hw : Below W.heap.size W w1) (h : But W w g cs w1) : Z2 w [g] ch (.panicked ch) w1 :=
 ⟨rfl, ⟨hw.os.trans hW.os.symm, hw.tape.trans hW.tape.symm, hw.output.trans hW.output.symm, h.1, fun k hk hkl => by
  rcases Nat.lt_or_ge k W.heap.size with h4 | h4
  ·rw [hw.block k h4, hW.block k h4]
  ·exact h.2.1 k h4 hk fun e => hkl (by simp [e])⟩⟩
theorem but_cell {cs : List Value} {p : Addr} {v : Value} {u : World} (hW : Below W.heap.size W w) (hu : Below W.heap.size W u) (h : But W w g cs u) (hc : w.cell? p = some v) (hp : p.block ≠ g) : u.cell? p = some v := cell_to hc (by
 have hblt := cell_lt hc
 rcases Nat.lt_or_ge p.block W.heap.size with h1 | h1
 ·rw [hu.block _ h1, hW.block _ h1]
 ·exact h.2.1 _ h1 hblt hp)
theorem next_p (hW : Below W.heap.size W w) (lg : W.heap.size ≤ g) (hb : Ka w g [.slice Ax 0 cx, .bool f]) : Calls Tryz.prog 96 #[.pointer (some ⟨g, 0, none⟩)] w (Z2 w [g] pch) := by
 refine K0.enterW Tryz.func96 rfl hW ?_
 refine ZR ?_
 refine ZA (L7 64 ⟨g, 0, none⟩) (.slice Ax 0 cx) (fun w1 hw h => K9 Zk (by rw [(hb.stay lg h.2).cell]; rfl)) ?_
 refine ZI true ?_
 refine K0.throw (Instr.panic O6 >>= fun v => pure (.value v)) O6 Zk (fun w1 hw h => by simp [Instr.panic, O6, Go.goPanic]) Zk ?_
 exact K0.pan fun w1 hw h => but_pan hW hw (V2 lg hb w1 h)
theorem next_s (hW : Below W.heap.size W w) (lg : W.heap.size ≤ g) (hb : Ka w g [.slice Ax (m + 1) cx, .bool f]) (hc : ∃ ad, Ax = some ad ∧ ad.block ≠ g ∧ w.cell? (ad.add 0) = some (K3 s)) : Calls Tryz.prog 96 #[.pointer (some ⟨g, 0, none⟩)] w (Nn w [g] (fun _ : Unit => K3 s) fun _ u => Ka u g [.slice (if cx = 1 then Ax else Ax.map (·.add 1)) m (cx - 1), .bool f]) := by
 obtain ⟨ad, hA, hne, hcell⟩ := hc
 refine K0.enterW Tryz.func96 rfl hW ?_
 refine ZR ?_
 refine ZA (L7 64 ⟨g, 0, none⟩) (.slice Ax (m + 1) cx) (fun w1 hw h => K9 Zk (by rw [(hb.stay lg h.2).cell]; rfl)) ?_
 refine ZJ ((((m + 1 : Nat) : Int) == 0)) false Zp ?_
 refine ZA (L7 64 ⟨g, 0, none⟩) (.slice Ax (m + 1) cx) (fun w1 hw h => K9 Zk (by rw [(hb.stay lg h.2).cell]; rfl)) ?_
 refine ZA (Ke 64 (.slice Ax (m + 1) cx) 0) (.pointer (some (ad.add 0))) (fun w1 hw h => by rw [hA]; exact Kr (k := 0) (elem := 9) Zk Zk Zo) ?_
 refine ZA (L7 9 (ad.add 0)) (K3 s) (fun w1 hw h => K9 Zk (but_cell hW hw (V2 lg hb w1 h) hcell (by rw [show (ad.add 0).block = ad.block from by unfold Addr.add; split <;> rfl]; exact hne))) ?_
 refine K0.ask (L7 64 ⟨g, 0, none⟩) (.slice Ax (m + 1) cx) Zk (fun w1 hw h => K9 Zk (by rw [(hb.stay lg h.2).cell]; rfl)) ?_
 refine ZS 5 ?_
 refine ZA (fromA 64 (.slice Ax (m + 1) cx) 1) (.slice (if cx = 1 then Ax else Ax.map (·.add 1)) m (cx - 1)) (fun w1 hw h => run_fromH (i := 1) (e := 9) Zk Zk Zk Zo) ?_
 refine K0.mutSt (L := [g]) (G := fun u => Ka u g [.slice (if cx = 1 then Ax else Ax.map (·.add 1)) m (cx - 1), .bool f]) (Φ' := But W w g [.slice (if cx = 1 then Ax else Ax.map (·.add 1)) m (cx - 1), .bool f]) (stS 64 ⟨g, 0, none⟩ (.slice (if cx = 1 then Ax else Ax.map (·.add 1)) m (cx - 1))) (fun w1 hw h => (hb.stay lg h.2).store1 (j := 0) Zk rfl Zs rfl) (fun u h => Nb (cs' := []) lg u (V2 lg hb u h)) (fun wa u e1 e2 h hG => Nj wa u e1 e2 (V2 lg hb wa h) hG) Zk Zk ?_
 refine ZR ?_
 refine ZV (K3 s) (fun w1 hw h => Pz hW hw (h w1 (Nat.le_refl _) fun _ _ _ => rfl))
end
section
variable {P : Program} {Δ : List Deferred} {W w : World} {Q : Exit → Act → World → Prop} {Φ Φ' : World → Prop}
theorem Q1.imp {β : Nat → Nat} {σ : AS} {a : Act} (hr : Q1 Δ W β σ Φ a w) (h : ∀ w, Φ w → Φ' w) : Q1 Δ W β σ Φ' a w :=
 ⟨hr.tmps, hr.defers, hr.bel, hr.box, hr.inj, fun w' hw => h w' (hr.keep w' hw)⟩
theorem K0.impC {fn : Func} {args : Array Value} (h : ∀ w, Φ w → Φ' w) (H : K0 P Δ W Q Φ' (S6 fn args)) : K0 P Δ W Q Φ (S6 fn args) :=
 ⟨fun hwf β a w hr => H.get hwf β a w (hr.imp h)⟩
theorem K0.enterB {f : FuncId} {fn : Func} {args : Array Value} {R : Ending → World → Prop} {g : Nat} {cs : List Value} (hf : P.funcs[f]? = some fn) (hb : fn.body.isSome = true) (hW : Below W.heap.size W w) (lg : W.heap.size ≤ g) (hx : Ka w g cs)
 (h : K0 P [] W (bodyPost P fn R) (But W w g cs) (S6 fn args)) : Calls P f args w R :=
 K0.enterW hf hb hW (K0.impC (V2 lg hx) h)
end
def But1P (W w : World) (g : Nat) (u : World) : Prop := w.heap.size ≤ u.heap.size ∧ ∀ b, W.heap.size ≤ b → b < w.heap.size → b ≠ g → u.heap[b]? = w.heap[b]?
@[reducible] def Qz (A : Option Addr) (n c r : Nat) (f : Bool) : List Value := [rsl A n c r, .bool f]
structure RE (W w : World) (g : Nat) (A : Option Addr) (n c : Nat) (ws0 : WS) : Prop where
 hW : Below W.heap.size W w
 lg : W.heap.size ≤ g
 str : Kj w A n ws0
 ne : ∀ ad, 0 < n → A = some ad → ad.block ≠ g
 hn : n ≤ c
 hn2 : n ≤ 1000000
 len : ∀ y ∈ ws0, y.length ≤ 10000
def Suf (ws0 : WS) (n : Nat) (rest : WS) : Prop := rest = ws0.drop (n - rest.length) ∧ rest.length ≤ n
section
variable {w W : World} {g n c m : Nat} {A : Option Addr} {f : Bool} {s : List UInt8} {ws0 rest r : WS}
theorem Pc (ad : Addr) (k : Nat) : (ad.add k).block = ad.block := by unfold Addr.add; split <;> rfl
theorem but_p {cs : List Value} (wa u : World) (e1 : wa.heap.size = u.heap.size) (e2 : ∀ b, b ∉ [g] → wa.heap[b]? = u.heap[b]?) (h : But W w g cs wa) : But1P W w g u :=
 ⟨by rw [← e1]; exact h.1, fun b h1 h2 h3 => (e2 b (by simpa using h3)).symm.trans (h.2.1 b h1 h2 h3)⟩
theorem p_pan {ch : List PanicEntry} {w1 : World} (hW : Below W.heap.size W w) (hw : Below W.heap.size W w1) (h : But1P W w g w1) : Z2 w [g] ch (.panicked ch) w1 :=
 ⟨rfl, ⟨hw.os.trans hW.os.symm, hw.tape.trans hW.tape.symm, hw.output.trans hW.output.symm, h.1, fun k hk hkl => by
  rcases Nat.lt_or_ge k W.heap.size with h4 | h4
  ·rw [hw.block k h4, hW.block k h4]
  ·exact h.2 k h4 hk fun e => hkl (by simp [e])⟩⟩
theorem Suf.tail (h : Suf ws0 n (s :: r)) : Suf ws0 n r := by
 obtain ⟨h1, h2⟩ := h
 rw [List.length_cons] at h1 h2
 refine ⟨?_, by omega⟩
 have h3 := congrArg List.tail h1
 rw [List.tail_cons, List.tail_drop] at h3
 rw [show n - r.length = n - (r.length + 1) + 1 by omega]
 exact h3
theorem Suf.get (h : Suf ws0 n (s :: r)) : ws0[n - (r.length + 1)]? = some s := by
 have h1 := congrArg (fun l => l[0]?) h.1
 simp only [List.getElem?_cons_zero, List.getElem?_drop, List.length_cons, Nat.add_zero] at h1
 exact h1.symm
theorem RE.cell {k : Nat} (hR : RE W w g A n c ws0) (h : ws0[k]? = some s) : ∃ ad, Xg k A c = some ad ∧ ad.block ≠ g ∧ w.cell? (ad.add 0) = some (K3 s) := by
 obtain ⟨ad, h1, h2⟩ := hR.str.2 k s h
 have hk := (List.getElem?_eq_some_iff.1 h).1
 have hl := hR.str.1
 have hc := hR.hn
 refine ⟨ad.add k, ?_, by rw [Pc]; exact hR.ne ad Zo h1, by rw [Addr.add_add]; exact h2⟩
 unfold Xg
 rw [if_neg Zo, h1]; rfl
theorem RE.next {cs : List Value} {u : World} (hR : RE W w g A n c ws0) (hu : Below W.heap.size W u) (h : But W w g cs u) : RE W u g A n c ws0 :=
 ⟨hu, hR.lg, ⟨hR.str.1, fun k s hk => by
  obtain ⟨ad, h1, h2⟩ := hR.str.2 k s hk
  exact ⟨ad, h1, but_cell hR.hW hu h h2 (by rw [Pc]; exact hR.ne ad (by have := (List.getElem?_eq_some_iff.1 hk).1; have := hR.str.1; omega) h1)⟩⟩, hR.ne, hR.hn, hR.hn2, hR.len⟩
theorem RE.mem (hR : RE W w g A n c ws0) (hs : Suf ws0 n (s :: r)) : s.length ≤ 10000 := hR.len s (List.mem_of_getElem? hs.get)
theorem next_e (hR : RE W w g A n c ws0) (hb : Ka w g (Qz A n c 0 f)) : Calls Tryz.prog 96 #[.pointer (some ⟨g, 0, none⟩)] w (Z2 w [g] pch) := next_p hR.hW hR.lg hb
theorem Te (hR : RE W w g A n c ws0) (hs : Suf ws0 n (s :: r)) (hb : Ka w g (Qz A n c (r.length + 1) f)) : Calls Tryz.prog 96 #[.pointer (some ⟨g, 0, none⟩)] w (Nn w [g] (fun _ : Unit => K3 s) fun _ u => Ka u g (Qz A n c r.length f)) := by
 have hl := hs.2
 have hc := hR.hn
 rw [List.length_cons] at hl
 have h1 := next_s hR.hW hR.lg hb (hR.cell hs.get)
 have e : (Value.slice (if c - (n - (r.length + 1)) = 1 then Xg (n - (r.length + 1)) A c else (Xg (n - (r.length + 1)) A c).map (·.add 1)) r.length (c - (n - (r.length + 1)) - 1)) = rsl A n c r.length := by
  unfold rsl
  rw [stepA_succ Zo, show n - (r.length + 1) + 1 = n - r.length by omega, show c - (n - (r.length + 1)) - 1 = c - (n - r.length) by omega]
 rw [e] at h1
 exact h1
theorem parseE_vals (l : List UInt8) : Lk l = 0 ∨ Lk l = 3 ∨ Lk l = 5 ∨ Lk l = 6 := by
 unfold Lk
 split
 ·exact .inr (.inl rfl)
 ·split
  ·exact .inr (.inl rfl)
  ·split
   ·exact .inr (.inr (.inl rfl))
   ·exact .inl rfl
theorem piE_vals (l : List UInt8) : piE l = 0 ∨ piE l = 3 ∨ piE l = 5 ∨ piE l = 6 := by
 unfold piE
 split
 ·split
  ·exact .inl rfl
  ·exact .inr (.inr (.inr rfl))
 ·unfold Mc
  split
  ·split
   ·exact .inr (.inl rfl)
   ·exact .inl rfl
  ·exact parseE_vals _
theorem prg_vals (s : List UInt8) (lo hi : Int) : Vh s lo hi = 0 ∨ Vh s lo hi = 6 ∨ Vh s lo hi = 3 ∨ Vh s lo hi = 5 := by
 unfold Vh
 rcases piE_vals s with h | h | h | h
 ·rw [if_pos h]; split
  ·exact .inr (.inl rfl)
  ·exact .inl rfl
 all_goals (rw [if_neg (by rw [h]; decide), h]; simp)
theorem within_t {lo hi : Int} (hR : RE W w g A n c ws0) (hs : Suf ws0 n rest) (hb : Ka w g (Qz A n c rest.length f)) : Calls Tryz.prog 151 #[.pointer (some ⟨g, 0, none⟩), .int .i64 lo, .int .i64 hi] w
 (TryPost w [g] pch (rdI lo hi f rest) (fun d (_ : Unit) => .tuple #[.int .i64 d.1, .bool d.2.1]) (fun d _ u => Ka u g (Qz A n c d.2.2.1.length d.2.2.2))) := by
 have lg := hR.lg
 cases rest with
 | nil =>
  refine K0.enterB Tryz.func151 rfl hR.hW lg hb ?_
  refine ZR ?_
  refine K0.mutx (L := [g]) (Φ' := fun u => But1P W w g u) (fun w1 hw h => next_e (hR.next hw h) h.2.2) (fun u h => Nb (cs' := []) lg u h) (fun wa u e1 e2 h _ => but_p wa u e1 e2 h) Zk Zk ?_
  exact K0.pan fun w1 hw h => p_pan hR.hW hw h
 | cons s r =>
  rw [rdI_cons]
  have hsl := hR.mem hs
  rcases prg_vals s lo hi with h0 | h0 | h0 | h0
  ·rw [if_pos h0]
   refine K0.enterB Tryz.func151 rfl hR.hW lg hb ?_
   refine ZR ?_
   refine K0.mut (L := [g]) (Φ' := fun _ u => But W w g (Qz A n c r.length f) u) (fun w1 hw h => Te (hR.next hw h) hs h.2.2) (fun u h => Nb (cs' := []) lg u h) (fun _ wa u e1 e2 h hG => Nj wa u e1 e2 h hG) Zk Zk (fun _ => ?_)
   refine ZR ?_
   refine ZC (fun w1 hw h => Rz h0 rfl Zo) fun u => ?_
   refine ZI true ?_
   refine ZV (.tuple #[.int .i64 (prgV s lo hi), .bool true]) (fun w1 hw h => Pz hR.hW hw (h w1 (Nat.le_refl _) fun _ _ _ => rfl).1)
  ·rw [if_neg (by rw [h0]; decide), if_pos h0]
   refine K0.enterB Tryz.func151 rfl hR.hW lg hb ?_
   refine ZR ?_
   refine K0.mut (L := [g]) (Φ' := fun _ u => But W w g (Qz A n c r.length f) u) (fun w1 hw h => Te (hR.next hw h) hs h.2.2) (fun u h => Nb (cs' := []) lg u h) (fun _ wa u e1 e2 h hG => Nj wa u e1 e2 h hG) Zk Zk (fun _ => ?_)
   refine ZR ?_
   refine ZC (fun w1 hw h => Rz h0 rfl Zo) fun u => ?_
   refine ZI false ?_
   refine ZI true ?_
   refine K0.mutSt (L := [g]) (G := fun u => Ka u g (Qz A n c r.length true)) (Φ' := But W w g (Qz A n c r.length true)) (stS 4 ⟨g, 1, none⟩ (.bool true)) (fun w1 hw h => h.1.2.2.store1 (j := 1) Zk rfl Zs rfl) (fun u h => Nb (cs' := []) lg u h.1) (fun wa u e1 e2 h hG => Nj wa u e1 e2 h.1 hG) Zk Zk ?_
   refine ZR ?_
   refine ZV (.tuple #[.int .i64 0, .bool false]) (fun w1 hw h => Pz hR.hW hw (h w1 (Nat.le_refl _) fun _ _ _ => rfl))
  ·rw [if_neg (by rw [h0]; decide), if_neg (by rw [h0]; decide)]
   refine K0.enterB Tryz.func151 rfl hR.hW lg hb ?_
   refine ZR ?_
   refine K0.mut (L := [g]) (Φ' := fun _ u => But W w g (Qz A n c r.length f) u) (fun w1 hw h => Te (hR.next hw h) hs h.2.2) (fun u h => Nb (cs' := []) lg u h) (fun _ wa u e1 e2 h hG => Nj wa u e1 e2 h hG) Zk Zk (fun _ => ?_)
   refine ZR ?_
   refine ZC (fun w1 hw h => Rz h0 rfl Zo) fun u => ?_
   refine ZI false ?_
   refine ZI false ?_
   refine K0.throw (Instr.panic O6 >>= fun v => pure (.value v)) O6 Zk (fun w1 hw h => by simp [Instr.panic, O6, Go.goPanic]) Zk ?_
   exact K0.pan fun w1 hw h => but_pan hR.hW hw h.1
  ·rw [if_neg (by rw [h0]; decide), if_neg (by rw [h0]; decide)]
   refine K0.enterB Tryz.func151 rfl hR.hW lg hb ?_
   refine ZR ?_
   refine K0.mut (L := [g]) (Φ' := fun _ u => But W w g (Qz A n c r.length f) u) (fun w1 hw h => Te (hR.next hw h) hs h.2.2) (fun u h => Nb (cs' := []) lg u h) (fun _ wa u e1 e2 h hG => Nj wa u e1 e2 h hG) Zk Zk (fun _ => ?_)
   refine ZR ?_
   refine ZC (fun w1 hw h => Rz h0 rfl Zo) fun u => ?_
   refine ZI false ?_
   refine ZI false ?_
   refine K0.throw (Instr.panic O6 >>= fun v => pure (.value v)) O6 Zk (fun w1 hw h => by simp [Instr.panic, O6, Go.goPanic]) Zk ?_
   exact K0.pan fun w1 hw h => but_pan hR.hW hw h.1
end
@[reducible] def S5 (c : Co) : Value := .agg #[.int .u8 (c.1.toNat : Int), .int .u8 (c.2.1.toNat : Int), .int .u8 (c.2.2.1.toNat : Int), .int .u8 (c.2.2.2.toNat : Int)]
section
variable {w W : World} {g n c m : Nat} {A : Option Addr} {f : Bool} {s l : List UInt8} {ws0 rest r : WS}
theorem end_s (hW : Below W.heap.size W w) (lg : W.heap.size ≤ g) (hb : Ka w g (Qz A n c 0 f)) : Calls Tryz.prog 102 #[.pointer (some ⟨g, 0, none⟩)] w (Nn w [g] (fun _ : Unit => .tuple #[]) fun _ u => Ka u g (Qz A n c 0 f)) := by
 refine K0.enterB Tryz.func102 rfl hW lg hb ?_
 refine ZR ?_
 refine ZA (L7 64 ⟨g, 0, none⟩) (rsl A n c 0) (fun w1 hw h => K9 Zk (by rw [h.2.2.cell]; rfl)) ?_
 refine ZI false ?_
 refine ZV (.tuple #[]) (fun w1 hw h => Pz hW hw (h w1 (Nat.le_refl _) fun _ _ _ => rfl))
theorem number_t (hR : RE W w g A n c ws0) (hs : Suf ws0 n rest) (hb : Ka w g (Qz A n c rest.length f)) : Calls Tryz.prog 98 #[.pointer (some ⟨g, 0, none⟩)] w
 (TryPost w [g] pch (rdN f rest) (fun d (_ : Unit) => .int .i64 d.1) (fun d _ u => Ka u g (Qz A n c d.2.1.length d.2.2))) := by
 have lg := hR.lg
 refine K0.enterB Tryz.func98 rfl hR.hW lg hb ?_
 unfold rdN
 cases ho : rdI mnI mxI f rest with
 | none =>
  refine ZR ?_
  refine K0.mutx (L := [g]) (Φ' := fun u => But1P W w g u) (fun w1 hw h => by have t := within_t (lo := mnI) (hi := mxI) (hR.next hw h) hs h.2.2; rw [ho] at t; exact t) (fun u h => Nb (cs' := []) lg u h) (fun wa u e1 e2 h _ => but_p wa u e1 e2 h) Zk Zk ?_
  exact K0.pan fun w1 hw h => p_pan hR.hW hw h
 | some d =>
  obtain ⟨z, b, r, f'⟩ := d
  refine ZR ?_
  refine K0.mut (L := [g]) (Φ' := fun _ u => But W w g (Qz A n c r.length f') u) (fun w1 hw h => by have t := within_t (lo := mnI) (hi := mxI) (hR.next hw h) hs h.2.2; rw [ho] at t; exact t) (fun u h => Nb (cs' := []) lg u h) (fun _ wa u e1 e2 h hG => Nj wa u e1 e2 h hG) Zk Zk (fun _ => ?_)
  refine ZR ?_
  refine ZV (.int .i64 z) (fun w1 hw h => Pz hR.hW hw (h w1 (Nat.le_refl _) fun _ _ _ => rfl))
theorem colP_dec (h : l.length = 8) : colP (35 :: l) = match decL l with
 | some [r, g, b, a] => some (r, g, b, a)
 | _ => none := by
 unfold colP
 rw [if_pos ⟨by rw [List.length_cons, h], rfl⟩]; rfl
theorem xdecode_g {p : List UInt8} {K : Nat} (hd : decL l = some p) (hK : p.length = K) (h0 : 0 < K) (hL : l.length ≤ 20000) : Calls Tryz.prog 160 #[K3 l] w (K5 w (fun y : Nat × Nat => .tuple #[.slice (some ⟨y.1, 0, none⟩) K y.2, .int .i64 0]) fun y u => ∀ (k : Nat) (b : UInt8), p[k]? = some b → u.cell? ⟨y.1, k, none⟩ = some (.int .u8 (b.toNat : Int))) := by
 subst hK
 refine (xdecode_s hd Zo).mono fun e w' k => ?_
 obtain ⟨y, h1, h2, h3⟩ := k
 have hown : K7 w' 0 5 1 y.1 p.length y.2 (bv p) := h3 w' (Nat.le_refl _) fun _ _ _ => rfl
 obtain ⟨g, hg, _⟩ := hown.cells h0
 refine ⟨(g, y.2), by rw [h1]; show Ending.returned (.tuple #[.slice y.1 _ _, _]) = _; rw [hg], h2, fun w'' k1 k2 k b hk => ?_⟩
 have ho2 : K7 w'' 0 5 1 y.1 p.length y.2 (bv p) := h3 w'' k1 k2
 obtain ⟨g2, e2, hc⟩ := ho2.cells h0
 rw [hg] at e2
 cases e2
 exact hc k _ (by unfold bv; rw [List.getElem?_map, hk]; rfl)
theorem xcolor_n (h : colP l = none) (hl : l.length ≤ 10000) : Calls Tryz.prog 152 #[K3 l] w (K5 w (fun _ : Unit => .tuple #[S5 co0, .int .i64 3]) fun _ _ => True) := by
 by_cases h9 : l.length = 9
 case neg =>
  refine K0.enter Tryz.func152 rfl ?_
  refine ZS 3 ?_
  refine ZT 8 (.bool ((l.length : Int) != 9)) (.bool true) Zp ?_
  refine ZI true ?_
  exact ZW (.tuple #[S5 co0, .int .i64 3])
 obtain ⟨b, l, rfl⟩ : ∃ b t, l = b :: t := by cases l with
  | nil => cases h9
  | cons b t => exact ⟨b, t, rfl⟩
 have h8 : l.length = 8 := by simpa using h9
 refine K0.enter Tryz.func152 rfl ?_
 refine ZS 3 ?_
 by_cases hb : b = 35
 case neg =>
  refine K0.slot 8 (.bool (((b :: l).length : Int) != 9)) (.bool false) Zk Zp ?_
  refine ZS 5 ?_
  refine K0.ask (ixS 9 (K3 (b :: l)) (0 : Nat)) (.int .u8 (b.toNat : Int)) Zk (fun w1 hw h => Oc Zk rfl) ?_
  refine ZS 7 ?_
  refine ZT 12 (.bool ((b.toNat : Int) != 35)) (.bool true) (by simp; intro e; exact hb (UInt8.toNat_inj.1 (by show b.toNat = 35; omega))) ?_
  refine ZI true ?_
  exact ZW (.tuple #[S5 co0, .int .i64 3])
 subst hb
 have hdn : decL l = none := by
  rw [colP_dec h8] at h
  cases hd : decL l with
  | none => rfl
  | some p =>
   have hp : p.length = 4 := by have := encL_dec hd; have h2 := R9 p; rw [this, h8] at h2; omega
   match p, hp with
   | [x, y, z, u], _ => rw [hd] at h; cases h
 refine K0.slot 8 (.bool (((35 :: l).length : Int) != 9)) (.bool false) Zk Zp ?_
 refine ZS 5 ?_
 refine ZA (ixS 9 (K3 (35 :: l)) (0 : Nat)) (.int .u8 35) (fun w1 hw h => Oc (b := 35) Zk rfl) ?_
 refine K0.cond false Zk ?_
 refine ZS 1 ?_
 refine ZA (fromA 9 (K3 (35 :: l)) ((1 : Nat) : Int)) (K3 l) (fun w1 hw h => run_fromA Zk Zs) ?_
 refine ZC (fun w1 hw h => xdecode_n hdn Zo) fun y => ?_
 refine ZI true ?_
 exact ZW (.tuple #[S5 co0, .int .i64 3])
theorem xcolor_s {k : Co} (h : colP l = some k) : Calls Tryz.prog 152 #[K3 l] w (K5 w (fun _ : Unit => .tuple #[S5 k, .int .i64 0]) fun _ _ => True) := by
 have hcw := colW_P h
 obtain ⟨l', rfl⟩ : ∃ t, l = 35 :: t := ⟨_, hcw.symm⟩
 have h9 : l'.length = 8 := by
  have := congrArg List.length hcw
  unfold Na at this
  rw [List.length_cons, List.length_cons, R9] at this
  have h2 : (X6 k).length = 4 := rfl
  omega
 have hd : decL l' = some (X6 k) := by
  have h1 : Oq (X6 k) = l' := by unfold Na at hcw; exact List.tail_eq_of_cons_eq hcw
  rw [← h1]; exact decL_enc _
 refine K0.enter Tryz.func152 rfl ?_
 refine ZS 3 ?_
 refine K0.slot 8 (.bool (((35 :: l').length : Int) != 9)) (.bool false) Zk Zp ?_
 refine ZS 5 ?_
 refine ZA (ixS 9 (K3 (35 :: l')) (0 : Nat)) (.int .u8 35) (fun w1 hw h => Oc (b := 35) Zk rfl) ?_
 refine K0.cond false Zk ?_
 refine ZS 1 ?_
 refine ZA (fromA 9 (K3 (35 :: l')) ((1 : Nat) : Int)) (K3 l') (fun w1 hw h => run_fromA Zk Zs) ?_
 refine ZC (fun w1 hw h => xdecode_g (K := 4) hd rfl Zd Zo) fun y => ?_
 refine ZI false ?_
 refine ZB 1 (Ke 86 (.slice (some ⟨y.1, 0, none⟩) 4 y.2) (0 : Nat)) (.pointer (some ((⟨y.1, 0, none⟩ : Addr).add 0))) (fun w1 hw h => Kr (elem := 5) Zk Zk Zd) ?_
 refine ZB 2 (L7 5 ((⟨y.1, 0, none⟩ : Addr).add 0)) (.int .u8 (k.1.toNat : Int)) (fun w1 hw h => K9 Zk (by rw [Addr.add_mid, Nat.zero_add]; exact h.2 0 _ rfl)) ?_
 refine ZB 4 (Ke 86 (.slice (some ⟨y.1, 0, none⟩) 4 y.2) (1 : Nat)) (.pointer (some ((⟨y.1, 0, none⟩ : Addr).add 1))) (fun w1 hw h => Kr (elem := 5) Zk Zk Zd) ?_
 refine ZB 5 (L7 5 ((⟨y.1, 0, none⟩ : Addr).add 1)) (.int .u8 (k.2.1.toNat : Int)) (fun w1 hw h => K9 Zk (by rw [Addr.add_mid, Nat.zero_add]; exact h.2 1 _ rfl)) ?_
 refine ZB 7 (Ke 86 (.slice (some ⟨y.1, 0, none⟩) 4 y.2) (2 : Nat)) (.pointer (some ((⟨y.1, 0, none⟩ : Addr).add 2))) (fun w1 hw h => Kr (elem := 5) Zk Zk Zd) ?_
 refine ZB 8 (L7 5 ((⟨y.1, 0, none⟩ : Addr).add 2)) (.int .u8 (k.2.2.1.toNat : Int)) (fun w1 hw h => K9 Zk (by rw [Addr.add_mid, Nat.zero_add]; exact h.2 2 _ rfl)) ?_
 refine ZB 10 (Ke 86 (.slice (some ⟨y.1, 0, none⟩) 4 y.2) (3 : Nat)) (.pointer (some ((⟨y.1, 0, none⟩ : Addr).add 3))) (fun w1 hw h => Kr (elem := 5) Zk Zk Zd) ?_
 refine ZB 11 (L7 5 ((⟨y.1, 0, none⟩ : Addr).add 3)) (.int .u8 (k.2.2.2.toNat : Int)) (fun w1 hw h => K9 Zk (by rw [Addr.add_mid, Nat.zero_add]; exact h.2 3 _ rfl)) ?_
 exact ZW (.tuple #[S5 k, .int .i64 0])
end
section
variable {w W : World} {g n c m : Nat} {A : Option Addr} {f : Bool} {s l : List UInt8} {ws0 rest r : WS}
theorem colour_t (hR : RE W w g A n c ws0) (hs : Suf ws0 n rest) (hb : Ka w g (Qz A n c rest.length f)) : Calls Tryz.prog 99 #[.pointer (some ⟨g, 0, none⟩)] w
 (TryPost w [g] pch (rdC f rest) (fun d (_ : Unit) => S5 d.1) (fun d _ u => Ka u g (Qz A n c d.2.1.length d.2.2))) := by
 have lg := hR.lg
 cases rest with
 | nil =>
  refine K0.enterB Tryz.func99 rfl hR.hW lg hb ?_
  refine ZR ?_
  refine K0.mutx (L := [g]) (Φ' := fun u => But1P W w g u) (fun w1 hw h => next_e (hR.next hw h) h.2.2) (fun u h => Nb (cs' := []) lg u h) (fun wa u e1 e2 h _ => but_p wa u e1 e2 h) Zk Zk ?_
  exact K0.pan fun w1 hw h => p_pan hR.hW hw h
 | cons s r =>
  have hsl := hR.mem hs
  have hrd : rdC f (s :: r) = (colP s).map fun c => (c, r, f) := rfl
  rw [hrd]
  cases hc : colP s with
  | none =>
   refine K0.enterB Tryz.func99 rfl hR.hW lg hb ?_
   refine ZR ?_
   refine K0.mut (L := [g]) (Φ' := fun _ u => But W w g (Qz A n c r.length f) u) (fun w1 hw h => Te (hR.next hw h) hs h.2.2) (fun u h => Nb (cs' := []) lg u h) (fun _ wa u e1 e2 h hG => Nj wa u e1 e2 h hG) Zk Zk (fun _ => ?_)
   refine ZR ?_
   refine ZC (fun w1 hw h => xcolor_n hc hsl) fun u => ?_
   refine ZI true ?_
   refine K0.throw (Instr.panic O6 >>= fun v => pure (.value v)) O6 Zk (fun w1 hw h => by simp [Instr.panic, O6, Go.goPanic]) Zk ?_
   exact K0.pan fun w1 hw h => but_pan hR.hW hw h.1
  | some k =>
   refine K0.enterB Tryz.func99 rfl hR.hW lg hb ?_
   refine ZR ?_
   refine K0.mut (L := [g]) (Φ' := fun _ u => But W w g (Qz A n c r.length f) u) (fun w1 hw h => Te (hR.next hw h) hs h.2.2) (fun u h => Nb (cs' := []) lg u h) (fun _ wa u e1 e2 h hG => Nj wa u e1 e2 h hG) Zk Zk (fun _ => ?_)
   refine ZR ?_
   refine ZC (fun w1 hw h => xcolor_s hc) fun u => ?_
   refine ZI false ?_
   refine ZV (S5 k) (fun w1 hw h => Pz hR.hW hw (h w1 (Nat.le_refl _) fun _ _ _ => rfl).1)
def Lq : WS := [[110, 111, 110, 122, 101, 114, 111], [101, 118, 101, 110, 111, 100, 100]]
theorem L3 {g : Nat} {L : WS} {cells : Array Value} {n : Nat} (h : Kp 9 cells g w) (he : cells.toList = sv L) (hn : L.length = n := by rfl) : Kj w (some ⟨g, 0, none⟩) n L := by
 refine ⟨hn, fun k s hk => ⟨⟨g, 0, none⟩, rfl, ?_⟩⟩
 unfold Kp at h
 rw [Addr.add_mid, Nat.zero_add]
 simp only [World.cell?, h, Option.isSome_none, Bool.false_eq_true, if_false]
 rw [← Array.getElem?_toList, he]
 unfold sv
 rw [List.getElem?_map, hk]; rfl
theorem names_spread : Calls Tryz.prog 74 #[.string ⟨#[115, 112, 114, 101, 97, 100]⟩] w (K5 w (fun y : Nat => .tuple #[.slice (some ⟨y, 0, none⟩) 4 4, .int .i64 0]) fun y u => Kj u (some ⟨y, 0, none⟩) 4 Mp) := by
 refine K0.enter Tryz.func74 rfl ?_
 refine ZR ?_
 refine ZI true ?_
 refine K0.make (Ks (64) 4 #[(0, K3 [110, 111, 110, 101]), (1, K3 [112, 97, 100]), (2, K3 [114, 101, 112, 101, 97, 116]), (3, K3 [114, 101, 102, 108, 101, 99, 116])]) (Kb 4) (Kp 9 #[K3 [110, 111, 110, 101], K3 [112, 97, 100], K3 [114, 101, 112, 101, 97, 116], K3 [114, 101, 102, 108, 101, 99, 116]]) Zk (fun w1 hw h => K8 Zk) (fun y => ?_)
 refine ZR ?_
 refine ZV (.tuple #[.slice (some ⟨y, 0, none⟩) 4 4, .int .i64 0]) (fun w1 hw h => ⟨y, rfl, hw, fun w'' k1 k2 => L3 (h w'' k1 k2).2 rfl⟩)
theorem names_look : Calls Tryz.prog 74 #[.string ⟨#[108, 111, 111, 107]⟩] w (K5 w (fun y : Nat => .tuple #[.slice (some ⟨y, 0, none⟩) 2 2, .int .i64 1]) fun y u => Kj u (some ⟨y, 0, none⟩) 2 P5) := by
 refine K0.enter Tryz.func74 rfl ?_
 refine ZR ?_
 refine ZI false ?_
 refine ZI true ?_
 refine K0.make (Ks (64) 2 #[(0, K3 [110, 101, 97, 114, 101, 115, 116]), (1, K3 [98, 105, 108, 105, 110, 101, 97, 114])]) (Kb 2) (Kp 9 #[K3 [110, 101, 97, 114, 101, 115, 116], K3 [98, 105, 108, 105, 110, 101, 97, 114]]) Zk (fun w1 hw h => K8 Zk) (fun y => ?_)
 refine ZR ?_
 refine ZV (.tuple #[.slice (some ⟨y, 0, none⟩) 2 2, .int .i64 1]) (fun w1 hw h => ⟨y, rfl, hw, fun w'' k1 k2 => L3 (h w'' k1 k2).2 rfl⟩)
theorem names_rule : Calls Tryz.prog 74 #[.string ⟨#[114, 117, 108, 101]⟩] w (K5 w (fun y : Nat => .tuple #[.slice (some ⟨y, 0, none⟩) 2 2, .int .i64 1]) fun y u => Kj u (some ⟨y, 0, none⟩) 2 Lq) := by
 refine K0.enter Tryz.func74 rfl ?_
 refine ZR ?_
 refine ZI false ?_
 refine ZI false ?_
 refine ZI true ?_
 refine K0.make (Ks (64) 2 #[(0, K3 [110, 111, 110, 122, 101, 114, 111]), (1, K3 [101, 118, 101, 110, 111, 100, 100])]) (Kb 2) (Kp 9 #[K3 [110, 111, 110, 122, 101, 114, 111], K3 [101, 118, 101, 110, 111, 100, 100]]) Zk (fun w1 hw h => K8 Zk) (fun y => ?_)
 refine ZR ?_
 refine ZV (.tuple #[.slice (some ⟨y, 0, none⟩) 2 2, .int .i64 1]) (fun w1 hw h => ⟨y, rfl, hw, fun w'' k1 k2 => L3 (h w'' k1 k2).2 rfl⟩)
end
section
variable {w W : World} {g n c m : Nat} {A : Option Addr} {f : Bool} {s l : List UInt8} {ws0 rest r : WS}
theorem str_ne {y k : Nat} {v v2 : Value} {L : WS} (hb : Ka w g [.slice A n c, v2]) (h : Kj w (some ⟨y, 0, none⟩) k (s :: L)) : ∀ b ∈ bl (some (⟨y, 0, none⟩ : Addr)), b ∉ [g] := fun b hb2 hm => by
 simp only [bl, List.mem_singleton] at hb2 hm
 have e : y = g := hb2.symm.trans hm
 obtain ⟨ad, h1, h2⟩ := h.2 0 s rfl
 cases h1
 have h3 : w.cell? ⟨g, 0, none⟩ = some (.slice A n c) := by rw [hb.cell]; rfl
 rw [Addr.add_mid, e, h3] at h2
 cases h2
theorem word_rule (hR : RE W w g A n c ws0) (hs : Suf ws0 n rest) (hb : Ka w g (Qz A n c rest.length f)) : Calls Tryz.prog 106 #[.pointer (some ⟨g, 0, none⟩), .string ⟨#[114, 117, 108, 101]⟩] w
 (TryPost w [g] pch (rdW Lq 1 f rest) (fun d (_ : Unit) => .int .i64 d.1) (fun d _ u => Ka u g (Qz A n c d.2.1.length d.2.2))) := by
 have lg := hR.lg
 refine K0.enterB Tryz.func106 rfl hR.hW lg hb ?_
 refine ZR ?_
 refine ZC (fun w1 hw h => names_rule) fun y => ?_
 cases rest with
 | nil =>
  refine K0.mutx (L := [g]) (Φ' := fun u => But1P W w g u) (fun w1 hw h => next_e (hR.next hw h.1) h.1.2.2) (fun u h => Nb (cs' := []) lg u h.1) (fun wa u e1 e2 h _ => but_p wa u e1 e2 h.1) Zk Zk ?_
  exact K0.pan fun w1 hw h => p_pan hR.hW hw h
 | cons s r =>
  have hsl := hR.mem hs
  refine K0.mut (L := [g]) (Φ' := fun _ u => But W w g (Qz A n c r.length f) u ∧ Kj u (some ⟨y, 0, none⟩) 2 Lq) (fun w1 hw h => Te (hR.next hw h.1) hs h.1.2.2) (fun u h => Nb (cs' := []) lg u h.1) (fun _ wa u e1 e2 h hG => ⟨Nj wa u e1 e2 h.1 hG, h.2.left e2 (str_ne (v := .bool f) h.1.2.2 h.2)⟩) Zk Zk (fun _ => ?_)
  refine ZR ?_
  have hrd : rdW Lq 1 f (s :: r) = (idxW s Lq).map fun (k : Nat) => ((1 : Int) + (k : Int), r, f) := rfl
  rw [hrd]
  refine K0.un Zk ?_
  refine ZR ?_
  refine K0.cond true Zk ?_
  refine ZS 1 ?_
  refine ZA (Ke 64 (.slice (some ⟨y, 0, none⟩) 2 2) (0 : Nat)) (.pointer (some ((⟨y, 0, none⟩ : Addr).add 0))) (fun w1 hw h => Kr (elem := 9) Zk Zk Zd) ?_
  refine K0.ask (L7 9 ((⟨y, 0, none⟩ : Addr).add 0)) (K3 [110, 111, 110, 122, 101, 114, 111]) Zk (fun w1 hw h => K9 Zk (by obtain ⟨ad, q1, q2⟩ := h.2.2 0 [110, 111, 110, 122, 101, 114, 111] rfl; cases q1; exact q2)) ?_
  refine ZS 2 ?_
  by_cases h0 : s = [110, 111, 110, 122, 101, 114, 111]
  ·subst h0
   refine ZA (S3 .eql 9 (.tmp 24) (.tmp 25) (K3 [110, 111, 110, 122, 101, 114, 111]) (K3 [110, 111, 110, 122, 101, 114, 111])) (.bool true) (fun w1 hw h => Pq Zs) ?_
   refine ZI true ?_
   have he : idxW [110, 111, 110, 122, 101, 114, 111] Lq = some 0 := by decide
   rw [he]
   refine ZV (.int .i64 1) (fun w1 hw h => Pz hR.hW hw (h w1 (Nat.le_refl _) fun _ _ _ => rfl).1)
  refine ZA (S3 .eql 9 (.tmp 24) (.tmp 25) (K3 [110, 111, 110, 122, 101, 114, 111]) (K3 s)) (.bool false) (fun w1 hw h => Pq (by simpa using Ne.symm h0)) ?_
  refine ZI false ?_
  refine K0.cond true Zk ?_
  refine ZS 1 ?_
  refine ZA (Ke 64 (.slice (some ⟨y, 0, none⟩) 2 2) (1 : Nat)) (.pointer (some ((⟨y, 0, none⟩ : Addr).add 1))) (fun w1 hw h => Kr (elem := 9) Zk Zk Zd) ?_
  refine K0.ask (L7 9 ((⟨y, 0, none⟩ : Addr).add 1)) (K3 [101, 118, 101, 110, 111, 100, 100]) Zk (fun w1 hw h => K9 Zk (by obtain ⟨ad, q1, q2⟩ := h.2.2 1 [101, 118, 101, 110, 111, 100, 100] rfl; cases q1; exact q2)) ?_
  refine ZS 2 ?_
  by_cases h1 : s = [101, 118, 101, 110, 111, 100, 100]
  ·subst h1
   refine ZA (S3 .eql 9 (.tmp 24) (.tmp 25) (K3 [101, 118, 101, 110, 111, 100, 100]) (K3 [101, 118, 101, 110, 111, 100, 100])) (.bool true) (fun w1 hw h => Pq Zs) ?_
   refine ZI true ?_
   have he : idxW [101, 118, 101, 110, 111, 100, 100] Lq = some 1 := by decide
   rw [he]
   refine ZV (.int .i64 2) (fun w1 hw h => Pz hR.hW hw (h w1 (Nat.le_refl _) fun _ _ _ => rfl).1)
  refine ZA (S3 .eql 9 (.tmp 24) (.tmp 25) (K3 [101, 118, 101, 110, 111, 100, 100]) (K3 s)) (.bool false) (fun w1 hw h => Pq (by simpa using Ne.symm h1)) ?_
  refine ZI false ?_
  refine ZI false ?_
  have he : idxW s Lq = none := by
   unfold Lq
   rw [idxW_cons, if_neg (Ne.symm h0), idxW_cons, if_neg (Ne.symm h1)]; rfl
  rw [he]
  refine K0.throw (Instr.panic O6 >>= fun v => pure (.value v)) O6 Zk (fun w1 hw h => by simp [Instr.panic, O6, Go.goPanic]) Zk ?_
  exact K0.pan fun w1 hw h => but_pan hR.hW hw h.1
end
end Go.Proofs.YtdeepdckmhpldaaGreatDoor
