/-
 Paints as text: the examples and the laws.
-/
import Derived.Test.YtncodmhgfkailaaGreatDoorPG
namespace Go.Proofs.YtncodmhgfkailaaGreatDoor
set_option maxRecDepth 100000
set_option maxHeartbeats 8000000
set_option linter.unusedVariables false
set_option linter.unusedSimpArgs false
open Go.RowKit
theorem make_allP {P : Program} {w : World} {t : TypeId} {z : Value} {N : Nat} {L : List Nat} (hz : zeroOf P t = some z) (hN : N ≤ w.heap.size) (hL : ∀ b ∈ L, b < w.heap.size) : M6 P w ptr (fun g u => K8 u g z.cells.toList ∧ N ≤ g ∧ g ∉ L) (allS t) := by
 obtain ⟨x, w', h1, h2, h3⟩ := make_all (N := w.heap.size) hz (Nat.le_refl _)
 exact ⟨x, w', h1, h2, fun w'' k1 k2 => by have h := h3 w'' k1 k2; exact ⟨h.1, Nat.le_trans hN h.2.1, fun hm => by have := hL _ hm; have := h.2.1; omega⟩⟩
theorem K8.storeN {P : Program} {t : TypeId} {w : World} {g j : Nat} {cs : List Value} {v : Value} (h : K8 w g cs) (hn : Of P t = some v.cells.toList.length) (hj : j + v.cells.toList.length ≤ cs.length) (h1 : ∀ u ∈ v.cells.toList, u.oneCell' = true) :
 ∃ w', (stS t ⟨g, j, none⟩ v).run P w = .ok .skip w' ∧ Chg [g] w w' ∧ ∀ w'', w'.heap.size ≤ w''.heap.size → (∀ b ∈ [g], w''.heap[b]? = w'.heap[b]?) → K8 w'' g (cs.take j ++ v.cells.toList ++ cs.drop (j + v.cells.toList.length)) := by
 obtain ⟨ty, h⟩ := h
 have hst := run_storeCells_at P g j ty v.cells.toList 0 cs.toArray w h (by simp at hj ⊢; omega) h1
 have hsz : v.cells.size = v.cells.toList.length := by simp
 have hnew : ((cs.toArray.toList.take (j + 0) ++ v.cells.toList ++ cs.toArray.toList.drop (j + 0 + v.cells.toList.length)).toArray) = (cs.take j ++ v.cells.toList ++ cs.drop (j + v.cells.toList.length)).toArray := rfl
 rw [hnew] at hst
 refine ⟨w.setRow g (cs.take j ++ v.cells.toList ++ cs.drop (j + v.cells.toList.length)).toArray, ?_, ⟨rfl, rfl, rfl, by rw [Qa]; exact Nat.le_refl _, fun k _ hk => Pa _ _ _ _ (by simpa using hk)⟩, fun w'' k1 k2 => ⟨ty, ?_⟩⟩
 ·simp only [stS, Instr.storeAt, Instr.sureAddr, storeVar, Sem.run_bind, Sem.run_pure, Result.andThen_ok, Ls hn]
  rw [if_neg Zs]
  simp only [hst, Sem.run_pure, Sem.run_bind, Result.andThen_ok]
 ·rw [k2 g Zs]
  simp only [World.setRow, Array.getElem?_modify, if_true, h, Option.map_some]
@[reducible] def N9 : Value := .slice none 0 0
@[reducible] def Px (W H r g b a : Int) (l : Value) (wh ln far : Int) : List Value := [.int .i64 W, .int .i64 H, .int .u8 r, .int .u8 g, .int .u8 b, .int .u8 a, l, .int .i64 wh, .int .i64 ln, .int .i64 far]
structure TC (W w : World) (gt gr : Nat) (A : Option Addr) (n c : Nat) (ws : WS) : Prop where
 hW : Below W.heap.size W w
 lt : W.heap.size ≤ gt
 lr : W.heap.size ≤ gr
 ne : gt ≠ gr
 nA : ∀ b ∈ bl A, b ≠ gt ∧ b ≠ gr
 hn : n ≤ c
 hn2 : n ≤ 1000000
 len : ∀ y ∈ ws, y.length ≤ 10000
structure Tx (W w : World) (gt gr : Nat) (tc rc : List Value) (u : World) : Prop where
 sz : w.heap.size ≤ u.heap.size
 fr : ∀ b, W.heap.size ≤ b → b < w.heap.size → b ≠ gt → b ≠ gr → u.heap[b]? = w.heap[b]?
 bt : K8 u gt tc
 br : K8 u gr rc
section
variable {w W : World} {gt gr n c m : Nat} {A : Option Addr} {f : Bool} {s : List UInt8} {ws rest r : WS} {tc rc tc2 rc2 : List Value}
theorem Tx.mr {wa u : World} (T : TC W w gt gr A n c ws) (e1 : wa.heap.size = u.heap.size) (e2 : ∀ b, b ∉ [gr] → wa.heap[b]? = u.heap[b]?) (h : Tx W w gt gr tc rc wa) (hG : K8 u gr rc2) : Tx W w gt gr tc rc2 u :=
 ⟨by rw [← e1]; exact h.sz, fun b h1 h2 h3 h4 => (e2 b (by simpa using h4)).symm.trans (h.fr b h1 h2 h3 h4), h.bt.left e2 (by simpa using T.ne), hG⟩
theorem Tx.mt {wa u : World} (T : TC W w gt gr A n c ws) (e1 : wa.heap.size = u.heap.size) (e2 : ∀ b, b ∉ [gt] → wa.heap[b]? = u.heap[b]?) (h : Tx W w gt gr tc rc wa) (hG : K8 u gt tc2) : Tx W w gt gr tc2 rc u :=
 ⟨by rw [← e1]; exact h.sz, fun b h1 h2 h3 h4 => (e2 b (by simpa using h3)).symm.trans (h.fr b h1 h2 h3 h4), hG, h.br.left e2 (by simpa using Ne.symm T.ne)⟩
theorem Tx.ownr (T : TC W w gt gr A n c ws) : ∀ u, Tx W w gt gr tc rc u → ∀ b ∈ [gr], W.heap.size ≤ b ∧ ∃ xs ty own, u.heap[b]? = some (.cells xs ty own) := fun u h b hb => by
 obtain rfl : b = gr := by simpa using hb
 exact ⟨T.lr, h.br.own⟩
theorem Tx.ownt (T : TC W w gt gr A n c ws) : ∀ u, Tx W w gt gr tc rc u → ∀ b ∈ [gt], W.heap.size ≤ b ∧ ∃ xs ty own, u.heap[b]? = some (.cells xs ty own) := fun u h b hb => by
 obtain rfl : b = gt := by simpa using hb
 exact ⟨T.lt, h.bt.own⟩
theorem Tx.reS {u : World} (T : TC W w gt gr A n c ws) (hu : Below W.heap.size W u) (h : L6 u A n ws) : RE W u gr A n c ws :=
 ⟨hu, T.lr, h, fun ad _ e => (T.nA ad.block (by rw [e]; simp [bl])).2, T.hn, T.hn2, T.len⟩
theorem Tx.re {u : World} (T : TC W w gt gr A n c ws) (hs : L6 w A n ws) (hu : Below W.heap.size W u) (h : Tx W w gt gr tc rc u) : RE W u gr A n c ws :=
 Tx.reS T hu ⟨hs.1, fun k s hk => by
  obtain ⟨ad, h1, h2⟩ := hs.2 k s hk
  refine ⟨ad, h1, cell_to h2 ?_⟩
  have hb := T.nA ad.block (by rw [h1]; simp [bl])
  have hlt := cell_lt h2
  rw [Od] at hlt
  rw [Od]
  rcases Nat.lt_or_ge ad.block W.heap.size with h3 | h3
  ·rw [hu.block _ h3, T.hW.block _ h3]
  ·exact h.fr _ h3 hlt hb.1 hb.2⟩
theorem Tx.start (T : TC W w gt gr A n c ws) (ht : K8 w gt tc) (hr : K8 w gr rc) (u : World) (h : w.heap.size ≤ u.heap.size ∧ ∀ b, W.heap.size ≤ b → b < w.heap.size → u.heap[b]? = w.heap[b]?) : Tx W w gt gr tc rc u :=
 ⟨h.1, fun b h1 h2 _ _ => h.2 b h1 h2, ht.stay T.lt h.2, hr.stay T.lr h.2⟩
theorem Tx.post2 {val : Value} {w1 : World} (T : TC W w gt gr A n c ws) (hw : Below W.heap.size W w1) (h : Tx W w gt gr tc rc w1) : Nr w [gt, gr] (fun _ : Unit => val) (fun _ u => K8 u gt tc ∧ K8 u gr rc) (.returned val) w1 :=
 ⟨(), rfl, ⟨hw.os.trans T.hW.os.symm, hw.tape.trans T.hW.tape.symm, hw.output.trans T.hW.output.symm, h.sz, fun k hk hkl => by
  rcases Nat.lt_or_ge k W.heap.size with h4 | h4
  ·rw [hw.block k h4, T.hW.block k h4]
  ·exact h.fr k h4 hk (fun e => hkl (by simp [e])) fun e => hkl (by simp [e])⟩, fun w'' k1 k2 => ⟨h.bt.to (k2 gt (.inl Zs)), h.br.to (k2 gr (.inl Zs))⟩⟩
theorem Tx.post1 {val : Value} {w1 : World} (T : TC W w gt gr A n c ws) (hg : w.heap.size ≤ gr) (hw : Below W.heap.size W w1) (h : Tx W w gt gr tc rc w1) : Nr w [gt] (fun _ : Unit => val) (fun _ u => K8 u gt tc) (.returned val) w1 :=
 ⟨(), rfl, ⟨hw.os.trans T.hW.os.symm, hw.tape.trans T.hW.tape.symm, hw.output.trans T.hW.output.symm, h.sz, fun k hk hkl => by
  rcases Nat.lt_or_ge k W.heap.size with h4 | h4
  ·rw [hw.block k h4, T.hW.block k h4]
  ·exact h.fr k h4 hk (fun e => hkl (by simp [e])) Zo⟩, fun w'' k1 k2 => h.bt.to (k2 gt (.inl Zs))⟩
theorem pcheck_nil : Calls Tryz.prog 269 #[.slice none 0 0] w (K5 w (fun _ : Unit => .tuple #[.int .i64 0, .int .i64 0]) fun _ _ => True) := by
 refine K0.enter Tryz.func269 rfl ?_
 refine ZR ?_
 refine ZI false ?_
 refine K0.un Zk ?_
 refine ZR ?_
 refine ZI false ?_
 exact ZW (.tuple #[.int .i64 0, .int .i64 0])
theorem pparse_nil : Calls Tryz.prog 255 #[K4 []] w (K5 w (fun _ : Unit => .tuple #[.slice none 0 0, .int .i64 0, .int .i64 0]) fun _ _ => True) := by
 refine K0.enter Tryz.func255 rfl ?_
 refine ZR ?_
 refine K0.condr (decide (((0 : Nat) : Int) > 65536)) false Zk Zs ?_
 refine ZS 0 ?_
 refine K0.make (allS 64) (ptr) (fun g u => K8 u g [.slice none 0 0] ∧ w.heap.size ≤ g ∧ g ∉ []) Zk (fun w1 hw h => make_allP (z := .slice none 0 0) Zk hw.size Zs) (fun gW => ?_)
 refine ZS 1 ?_
 refine K0.pure_ (p := w.heap.size ≤ gW) (fun u hu h => h.2.2.1) Zk (fun hgW => ?_)
 refine ZA (Ov .neq 9 (.tmp 21) (.const (.string ⟨#[]⟩)) (K4 []) (K4 [])) (.bool false) (fun w1 hw h => run_neS Zs) ?_
 refine K0.cond false Zk ?_
 refine ZS 0 ?_
 refine K0.make (allS 3) (ptr) (fun g u => K8 u g [.int .i64 0] ∧ w.heap.size ≤ g ∧ g ∉ [gW]) Zk (fun w1 hw h => make_allP (z := .int .i64 0) Zk hw.size (by intro b hb; obtain rfl : b = gW := by { simpa using hb }; exact h.2.1.lt)) (fun gA => ?_)
 refine ZS 1 ?_
 refine K0.make (allS 41) (ptr) (fun g u => K8 u g [.int .i64 0] ∧ w.heap.size ≤ g ∧ g ∉ [gW, gA]) Zk (fun w1 hw h => make_allP (z := .int .i64 0) Zk hw.size (by intro b hb; rcases List.mem_cons.1 hb with rfl | hb; exact h.1.2.1.lt; obtain rfl : b = gA := by { simpa using hb }; exact h.2.1.lt)) (fun gE => ?_)
 refine ZS 2 ?_
 refine K0.pure_ (p := (w.heap.size ≤ gA ∧ gA ∉ [gW]) ∧ (w.heap.size ≤ gE ∧ gE ∉ [gW, gA])) (fun u hu h => ⟨h.1.2.2, h.2.2⟩) Zk (fun hp => ?_)
 obtain ⟨⟨la, ha⟩, le, he⟩ := hp
 simp only [List.mem_cons, List.not_mem_nil, or_false, not_or] at ha he
 refine K0.mutSt (L := [gA]) (G := fun u => K8 u gA [.int .i64 0]) (Φ' := fun u => K8 u gW [.slice none 0 0] ∧ K8 u gA [.int .i64 0] ∧ K8 u gE [.int .i64 0]) (stS 3 ⟨gA, 0, none⟩ (.int .i64 0)) (fun w1 hw h => h.1.2.1.store Zk rfl (by intro u hu; simp [Value.cells] at hu; subst hu; rfl)) (fun u h b hb => by obtain rfl : b = gA := by { simpa using hb }; exact ⟨la, h.1.2.1.own⟩) (fun wa u e1 e2 h hG => ⟨h.1.1.2.1.left e2 (by simp; exact fun e => ha e.symm), hG, h.2.1.left e2 (by simp; exact he.2)⟩) Zk Zk ?_
 refine ZR ?_
 refine K0.mutSt (L := [gE]) (G := fun u => K8 u gE [.int .i64 0]) (Φ' := fun u => K8 u gW [.slice none 0 0] ∧ K8 u gA [.int .i64 0] ∧ K8 u gE [.int .i64 0]) (stS 41 ⟨gE, 0, none⟩ (.int .i64 0)) (fun w1 hw h => h.2.2.store Zk rfl (by intro u hu; simp [Value.cells] at hu; subst hu; rfl)) (fun u h b hb => by obtain rfl : b = gE := by { simpa using hb }; exact ⟨le, h.2.2.own⟩) (fun wa u e1 e2 h hG => ⟨h.1.left e2 (by simp; exact fun e => he.1 e.symm), h.2.1.left e2 (by simp; exact fun e => he.2 e.symm), hG⟩) Zk Zk ?_
 refine ZR ?_
 refine K0.un Zk ?_
 refine ZR ?_
 refine ZA (Ln 3 ⟨gA, 0, none⟩) (.int .i64 0) (fun w1 hw h => K9 Zk h.2.1.one) ?_
 refine ZA (Ln 64 ⟨gW, 0, none⟩) (.slice none 0 0) (fun w1 hw h => K9 Zk h.1.one) ?_
 refine ZI false ?_
 refine ZC (fun w1 hw h => pcheck_nil) fun u => ?_
 refine ZI false ?_
 exact ZW (.tuple #[.slice none 0 0, .int .i64 0, .int .i64 0])
theorem path_e (hR : RE W w gr A n c ws) (hs : Suf ws n ([] :: r)) (hb : K8 w gr (Lw A n c (r.length + 1) f)) : Calls Tryz.prog 207 #[.pointer (some ⟨gr, 0, none⟩)] w (Nr w [gr] (fun _ : Unit => .slice none 0 0) fun _ u => K8 u gr (Lw A n c r.length f)) := by
 have lg := hR.lg
 refine K0.enterB Tryz.func207 rfl hR.hW lg hb ?_
 refine ZR ?_
 refine K0.mut (L := [gr]) (Φ' := fun _ u => P4 W w gr (Lw A n c r.length f) u) (fun w1 hw h => Ob (hR.next hw h) hs h.2.2) (fun u h => Ka (cs' := []) lg u h) (fun _ wa u e1 e2 h hG => Km wa u e1 e2 h hG) Zk Zk (fun _ => ?_)
 refine ZR ?_
 refine ZC (fun w1 hw h => pparse_nil) fun u => ?_
 refine ZI true ?_
 refine ZV (.slice none 0 0) (fun w1 hw h => Mx hR.hW hw (h w1 (Nat.le_refl _) fun _ _ _ => rfl).1)
theorem step_s {z : Int} (hW : Below W.heap.size W w) (lg : W.heap.size ≤ gt) (hb : K8 w gt tc) (hl : 7 < tc.length) : Calls Tryz.prog 159 #[.pointer (some ⟨gt, 0, none⟩), .int .i64 z, .bool true] w (Nr w [gt] (fun _ : Unit => .tuple #[]) fun _ u => K8 u gt (tc.set 7 (.int .i64 z))) := by
 refine K0.enterB Tryz.func159 rfl hW lg hb ?_
 refine ZR ?_
 refine ZI false ?_
 refine K0.mutSt (L := [gt]) (G := fun u => K8 u gt (tc.set 7 (.int .i64 z))) (Φ' := P4 W w gt (tc.set 7 (.int .i64 z))) (stS 3 ⟨gt, 7, none⟩ (.int .i64 z)) (fun w1 hw h => h.2.2.store1 (j := 7) Zk rfl hl rfl) (fun u h => Ka (cs' := []) lg u h) (fun wa u e1 e2 h hG => Km wa u e1 e2 h hG) Zk Zk ?_
 refine ZR ?_
 refine ZV (.tuple #[]) (fun w1 hw h => Mx hW hw (h w1 (Nat.le_refl _) fun _ _ _ => rfl))
theorem Q8.mk0 {X : Type} {P : Program} {w : World} {val : X → Value} {G : X → World → Prop} {s : Sem Next} (h : Q8 P w [] val G s) : M6 P w val G s := by
 obtain ⟨x, w', h1, h2, h3⟩ := h
 exact ⟨x, w', h1, ⟨h2.os, h2.tape, h2.output, h2.size, fun k hk => h2.block k hk Zs⟩, fun w'' k1 k2 => h3 w'' k1 fun b hb => by
  rcases hb with hb | hb
  ·cases hb
  ·exact k2 b hb.1 hb.2⟩
def shapeN : List UInt8 := [115, 104, 97, 112, 101]
def sceneN : List UInt8 := [115, 99, 101, 110, 101]
@[reducible] def ws2 : WS := [shapeN, [49], [48], [110, 111, 110, 122, 101, 114, 111], []]
def nd2 : List Value := [.int .i64 1, .int .i64 2, .int .i64 0] ++ (tv0.cl ++ [.slice none 0 0, .int .i64 0, .int .u8 0, .int .i64 0, .bool false, .bool false, .slice none 0 0, .int .i64 1, .slice none 0 0, .int .i64 0, .int .i64 0, .int .i64 0, .int .i64 0, .slice none 0 0, .int .i64 0, .slice none 0 0, .int .i64 0, .int .i64 0, .slice none 0 0, .int .i64 0])
def ndZ : List Value := [.int .i64 0, .int .i64 0, .int .i64 0] ++ (tv0.cl ++ [.slice none 0 0, .int .i64 0, .int .u8 0, .int .i64 0, .bool false, .bool false, .slice none 0 0, .int .i64 0, .slice none 0 0, .int .i64 0, .int .i64 0, .int .i64 0, .int .i64 0, .slice none 0 0, .int .i64 0, .slice none 0 0, .int .i64 0, .int .i64 0, .slice none 0 0, .int .i64 0])
theorem app_nd {gb : Nat} {w : World} (hg : L8 54 nd2.toArray gb w) :
 Q8 Tryz.prog w [] (fun z : Option Addr × Nat => .slice z.1 (0 + 1) z.2) (fun z v => True) (M2 57 57 (.slice none 0 0) (Ki 1 gb)) := by
 obtain ⟨x, w', h1, h2, h3⟩ := Ms (P := Tryz.prog) (s := 47) (z := .agg ndZ.toArray) (bytes := 656) (m := 1) (cc := 1) (t := 57) (elem := 54) Zk Zk rfl Zd (K6.nil_ (B := w.heap.size)) (Nat.le_refl _) (M5 (n := 1) hg rfl) (by intro v hv; revert v; decide) Zo Zd
 exact ⟨x, w', h1, h2, fun _ _ _ => trivial⟩
theorem begin_s {x1 x2 x3 x4 x5 x6 x7 : Int} (T : TC W w gt gr A 5 c ws2) (hs : L6 w A 5 ws2) (ht : K8 w gt (Px x1 x2 x3 x4 x5 x6 N9 0 1 x7)) (hr : K8 w gr (Lw A 5 c 4 false)) :
 Calls Tryz.prog 160 #[.pointer (some ⟨gt, 0, none⟩), .pointer (some ⟨gr, 0, none⟩), K4 shapeN] w (Nr w [gt, gr] (fun _ : Value => .tuple #[]) fun l u => K8 u gt (Px x1 x2 x3 x4 x5 x6 l 1 1 x7) ∧ K8 u gr (Lw A 5 c 0 false)) := by
 refine K0.enterW Tryz.func160 rfl T.hW (K0.impC (Tx.start T ht hr) ?_)
 refine ZR ?_
 refine ZA (Ln 3 ⟨gt, 7, none⟩) (.int .i64 0) (fun w1 hw h => K9 Zk (by rw [h.bt.cell]; rfl)) ?_
 refine ZA (Ln 3 ⟨gt, 8, none⟩) (.int .i64 1) (fun w1 hw h => K9 Zk (by rw [h.bt.cell]; rfl)) ?_
 refine K0.mut (L := [gt]) (Φ' := fun _ : Unit => Tx W w gt gr (Px x1 x2 x3 x4 x5 x6 N9 1 1 x7) (Lw A 5 c 4 false)) (fun w1 hw h => step_s hw T.lt h.bt (by show 7 < 10; decide)) (Tx.ownt T) (fun _ wa u e1 e2 h hG => h.mt T e1 e2 hG) Zk Zk (fun _ => ?_)
 refine ZR ?_
 refine K0.mut (L := [gr]) (Φ' := fun _ : Unit => Tx W w gt gr (Px x1 x2 x3 x4 x5 x6 N9 1 1 x7) (Lw A 5 c 3 false)) (fun w1 hw h => by have t := Oa (Tx.re T hs hw h) (show Suf ws2 5 (ws2.drop 1) from ⟨rfl, by decide⟩) h.br; rw [show rdN false (ws2.drop 1) = some (1, ws2.drop 2, false) from by decide +kernel] at t; exact t) (Tx.ownr T) (fun _ wa u e1 e2 h hG => h.mr T e1 e2 hG) Zk Zk (fun _ => ?_)
 refine ZR ?_
 refine K0.mut (L := [gr]) (Φ' := fun _ : Unit => Tx W w gt gr (Px x1 x2 x3 x4 x5 x6 N9 1 1 x7) (Lw A 5 c 2 false)) (fun w1 hw h => by have t := Oa (Tx.re T hs hw h) (show Suf ws2 5 (ws2.drop 2) from ⟨rfl, by decide⟩) h.br; rw [show rdN false (ws2.drop 2) = some (0, ws2.drop 3, false) from by decide +kernel] at t; exact t) (Tx.ownr T) (fun _ wa u e1 e2 h hG => h.mr T e1 e2 hG) Zk Zk (fun _ => ?_)
 refine ZR ?_
 refine ZI false ?_
 refine ZI true ?_
 refine K0.mut (L := [gr]) (Φ' := fun _ : Unit => Tx W w gt gr (Px x1 x2 x3 x4 x5 x6 N9 1 1 x7) (Lw A 5 c 1 false)) (fun w1 hw h => by have t := word_rule (Tx.re T hs hw h) (show Suf ws2 5 (ws2.drop 3) from ⟨rfl, by decide⟩) h.br; rw [show rdW ruleN 1 false (ws2.drop 3) = some (1, ws2.drop 4, false) from by decide +kernel] at t; exact t) (Tx.ownr T) (fun _ wa u e1 e2 h hG => h.mr T e1 e2 hG) Zk Zk (fun _ => ?_)
 refine ZR ?_
 refine K0.mut (L := [gr]) (Φ' := fun _ : Unit => Tx W w gt gr (Px x1 x2 x3 x4 x5 x6 N9 1 1 x7) (Lw A 5 c 0 false)) (fun w1 hw h => path_e (r := []) (Tx.re T hs hw h) (show Suf ws2 5 (ws2.drop 4) from ⟨rfl, by decide⟩) h.br) (Tx.ownr T) (fun _ wa u e1 e2 h hG => h.mr T e1 e2 hG) Zk Zk (fun _ => ?_)
 refine ZR ?_
 refine K0.askAt 5 (Ln 57 ⟨gt, 6, none⟩) (N9) Zk (fun w1 hw h => K9 Zk (by rw [h.bt.cell]; rfl)) ?_
 refine ZS 7 ?_
 refine K0.make (Li (57) 1 #[(0, .agg nd2.toArray)]) (Ki 1) (L8 54 nd2.toArray) Zk (fun w1 hw h => Kb Zk) (fun gb => ?_)
 refine ZS 8 ?_
 refine K0.make (M2 57 57 N9 (Ki 1 gb)) (fun y : Option Addr × Nat => .slice y.1 (0 + 1) y.2) (fun _ _ => True) Zk (fun w1 hw h => (app_nd h.2).mk0) (fun y => ?_)
 refine ZR ?_
 refine K0.mutStAny (L := [gt]) (G := fun u => K8 u gt (Px x1 x2 x3 x4 x5 x6 (.slice y.1 (0 + 1) y.2) 1 1 x7)) (Φ' := Tx W w gt gr (Px x1 x2 x3 x4 x5 x6 (.slice y.1 (0 + 1) y.2) 1 1 x7) (Lw A 5 c 0 false)) (stS 57 ⟨gt, 6, none⟩ (.slice y.1 (0 + 1) y.2)) (fun w1 hw h => h.1.1.bt.store1 (j := 6) Zk rfl (by show 6 < 10; decide) rfl) (fun u h => Tx.ownt T u h.1.1) (fun wa u e1 e2 h hG => h.1.1.mt T e1 e2 hG) Zk Zk ?_
 refine ZR ?_
 refine ZV (.tuple #[]) (fun w1 hw h => ?_)
 obtain ⟨x, h1, h2, h3⟩ := (h w1 (Nat.le_refl _) fun _ _ _ => rfl).post2 (val := .tuple #[]) T hw
 exact ⟨.slice y.1 (0 + 1) y.2, h1, h2, h3⟩
end
theorem K0.impM {P : Program} {Δ : List Deferred} {W : World} {Q : Exit → Act → World → Prop} {Φ Φ' : World → Prop} {c : O8} (h : ∀ w, Φ w → Φ' w) (hf : notAny c = true) (H : K0 P Δ W Q Φ' c) : K0 P Δ W Q Φ c := by
 obtain ⟨foc, k, σ⟩ := c
 replace H := H.get
 refine ⟨?_⟩
 unfold GoodD at H ⊢
 cases foc with
 | code x => exact fun hwf β a w hr => H hwf β a w (hr.imp h)
 | ops o l => exact fun hwf β a w hr => H hwf β a w (hr.imp h)
 | any o f l => cases hf
 | out e => exact fun hwf β a w hr => H hwf β a w (hr.imp h)
section
variable {W w u wa : World} {g gt gr n c : Nat} {A : Option Addr} {f : Bool} {ws : WS} {tc rc tc2 rc2 : List Value}
theorem strAt_ne (hb : K8 u g tc) (hc : ∀ v ∈ tc, ∀ s, v ≠ K4 s) (h : L6 u A n ws) (h0 : 0 < ws.length) : ∀ b ∈ bl A, b ≠ g := by
 rintro b hb2 rfl
 obtain ⟨s, hs⟩ : ∃ s, ws[0]? = some s := ⟨_, List.getElem?_eq_getElem h0⟩
 obtain ⟨ad, hA, hc2⟩ := h.2 0 s hs
 rw [hA] at hb2
 obtain rfl : b = ad.block := by simpa [bl] using hb2
 obtain ⟨ty, hb⟩ := hb
 unfold World.cell? at hc2
 rw [Od, hb] at hc2
 simp only at hc2
 split at hc2
 ·cases hc2
 ·exact hc _ (List.mem_of_getElem? (by simpa using hc2)) s rfl
theorem L6.left2 {L : List Nat} (e2 : ∀ b, b ∉ L → wa.heap[b]? = u.heap[b]?) (hA : ∀ b ∈ bl A, b ∉ L) (h : L6 wa A n ws) : L6 u A n ws :=
 ⟨h.1, fun k s hk => by
  obtain ⟨ad, h1, h2⟩ := h.2 k s hk
  exact ⟨ad, h1, cell_to h2 (by rw [Od]; exact (e2 _ (hA _ (by rw [h1]; simp [bl]))).symm)⟩⟩
structure TS (W w : World) (gt gr : Nat) (A : Option Addr) (n : Nat) (ws : WS) (tc rc : List Value) (u : World) : Prop where
 t : Tx W w gt gr tc rc u
 s : L6 u A n ws
theorem TS.mr (T : TC W w gt gr A n c ws) (e1 : wa.heap.size = u.heap.size) (e2 : ∀ b, b ∉ [gr] → wa.heap[b]? = u.heap[b]?) (h : TS W w gt gr A n ws tc rc wa) (hG : K8 u gr rc2) : TS W w gt gr A n ws tc rc2 u :=
 ⟨h.t.mr T e1 e2 hG, h.s.left2 e2 fun b hb => by simpa using (T.nA b hb).2⟩
theorem TS.mt (T : TC W w gt gr A n c ws) (e1 : wa.heap.size = u.heap.size) (e2 : ∀ b, b ∉ [gt] → wa.heap[b]? = u.heap[b]?) (h : TS W w gt gr A n ws tc rc wa) (hG : K8 u gt tc2) : TS W w gt gr A n ws tc2 rc u :=
 ⟨h.t.mt T e1 e2 hG, h.s.left2 e2 fun b hb => by simpa using (T.nA b hb).1⟩
theorem TS.mb (T : TC W w gt gr A n c ws) (e1 : wa.heap.size = u.heap.size) (e2 : ∀ b, b ∉ [gt, gr] → wa.heap[b]? = u.heap[b]?) (h : TS W w gt gr A n ws tc rc wa) (hG : K8 u gt tc2 ∧ K8 u gr rc2) : TS W w gt gr A n ws tc2 rc2 u :=
 ⟨⟨by rw [← e1]; exact h.t.sz, fun b h1 h2 h3 h4 => (e2 b (by simp; exact ⟨h3, h4⟩)).symm.trans (h.t.fr b h1 h2 h3 h4), hG.1, hG.2⟩, h.s.left2 e2 fun b hb => by simpa using T.nA b hb⟩
theorem TS.ownr (T : TC W w gt gr A n c ws) : ∀ u, TS W w gt gr A n ws tc rc u → ∀ b ∈ [gr], W.heap.size ≤ b ∧ ∃ xs ty own, u.heap[b]? = some (.cells xs ty own) := fun u h => Tx.ownr T u h.t
theorem TS.ownt (T : TC W w gt gr A n c ws) : ∀ u, TS W w gt gr A n ws tc rc u → ∀ b ∈ [gt], W.heap.size ≤ b ∧ ∃ xs ty own, u.heap[b]? = some (.cells xs ty own) := fun u h => Tx.ownt T u h.t
theorem TS.ownb (T : TC W w gt gr A n c ws) : ∀ u, TS W w gt gr A n ws tc rc u → ∀ b ∈ [gt, gr], W.heap.size ≤ b ∧ ∃ xs ty own, u.heap[b]? = some (.cells xs ty own) := fun u h b hb => by
 rcases List.mem_cons.1 hb with rfl | hb
 ·exact Tx.ownt T u h.t _ Zs
 ·exact Tx.ownr T u h.t _ hb
theorem TC.at {w1 : World} (T : TC W w gt gr A n c ws) (hw : Below W.heap.size W w1) : TC W w1 gt gr A n c ws := ⟨hw, T.lt, T.lr, T.ne, T.nA, T.hn, T.hn2, T.len⟩
theorem TS.re (T : TC W w gt gr A n c ws) (hu : Below W.heap.size W u) (h : TS W w gt gr A n ws tc rc u) : RE W u gr A n c ws := Tx.reS T hu h.s
def Mn : List UInt8 := [115, 99, 101, 110, 101, 32, 52, 32, 52, 32, 35, 102, 102, 102, 102, 102, 102, 102, 102]
def Qt : List UInt8 := [115, 104, 97, 112, 101, 32, 49, 32, 48, 32, 110, 111, 110, 122, 101, 114, 111, 32, 42]
def whiteN : List UInt8 := [35, 102, 102, 102, 102, 102, 102, 102, 102]
@[reducible] def ws1 : WS := [sceneN, [52], [52], whiteN]
theorem wl1 : Q6 (La Mn) = true ∧ L7 (La Mn) = ws1 := by decide +kernel
theorem wl2 : Q6 (La Qt) = true ∧ L7 (La Qt) = ws2 := by decide +kernel
theorem sf1 (hM : ML w) : Calls Tryz.prog 69 #[K4 Mn] w (K5 w (fun y : Option Addr × Nat => .tuple #[.slice y.1 4 y.2, .int .i64 0, .int .i64 0]) fun y u => L6 u y.1 4 ws1 ∧ 4 ≤ y.2) := by
 have t := sf_c (w := w) (l := Mn) hM wl1.1 Zd; rw [wl1.2] at t; exact t
theorem sf2 (hM : ML w) : Calls Tryz.prog 69 #[K4 Qt] w (K5 w (fun y : Option Addr × Nat => .tuple #[.slice y.1 5 y.2, .int .i64 0, .int .i64 0]) fun y u => L6 u y.1 5 ws2 ∧ 5 ≤ y.2) := by
 have t := sf_c (w := w) (l := Qt) hM wl2.1 Zd; rw [wl2.2] at t; exact t
theorem rbx_full : Lw A n c n f = [.slice A n c, .bool f] := by
 unfold Lw rsl
 rw [Nat.sub_self, stepA_zero, Nat.sub_zero]
theorem txC_ns {W H r g b a wh ln far : Int} {l : Value} (hl : ∀ s, l ≠ K4 s) : ∀ v ∈ Px W H r g b a l wh ln far, ∀ s, v ≠ K4 s := by
 intro v hv s e
 subst e
 unfold Px at hv
 simp only [List.mem_cons, List.not_mem_nil, or_false] at hv
 rcases hv with h | h | h | h | h | h | h | h | h | h <;> first | exact absurd h.symm (hl s) | cases h
theorem rbx2_ns : ∀ v ∈ [Value.slice A n c, .bool f], ∀ s, v ≠ K4 s := by
 intro v hv s e
 subst e
 simp only [List.mem_cons, List.not_mem_nil, or_false] at hv
 rcases hv with h | h <;> cases h
theorem TS.post {val : Value} {w1 : World} (T : TC W w gt gr A n c ws) (hg : w.heap.size ≤ gr) (hw : Below W.heap.size W w1) (h : TS W w gt gr A n ws tc rc w1) : Nr w [gt] (fun _ : Unit => val) (fun _ u => K8 u gt tc) (.returned val) w1 := h.t.post1 T hg hw
theorem nil_ns : ∀ s, N9 ≠ K4 s := fun s h => by cases h
theorem take_1 (hM : ML W) (hW : Below W.heap.size W w) (lt : W.heap.size ≤ gt) (ht : K8 w gt (Px 0 0 0 0 0 0 N9 0 0 (-1))) : Calls Tryz.prog 87 #[.pointer (some ⟨gt, 0, none⟩), K4 Mn] w (Nr w [gt] (fun _ : Unit => .tuple #[]) fun _ u => K8 u gt (Px 4 4 255 255 255 255 N9 0 0 (-1))) := by
 have hgt := ht.lt
 refine K0.enterW Tryz.func87 rfl hW ?_
 refine ZR ?_
 refine ZC (fun w1 hw h => sf1 (hM.below hw)) fun y => ?_
 refine K0.cond false Zk ?_
 refine ZS 2 ?_
 refine K0.make (boxS 114 (.agg #[.slice y.1 4 y.2, .bool false])) (ptr) (fun g u => K8 u g [.slice y.1 4 y.2, .bool false] ∧ w.heap.size ≤ g ∧ g < u.heap.size) Zk (fun w1 hw h => make_box (v := .agg #[.slice y.1 4 y.2, .bool false]) h.1.1) (fun gr => ?_)
 refine ZS 2 ?_
 refine K0.pure_ (p := (w.heap.size ≤ gr ∧ 4 ≤ y.2) ∧ ∀ b ∈ bl y.1, b ≠ gt ∧ b ≠ gr) (fun u hu h => ⟨⟨h.2.2.1, h.1.2.2⟩, fun b hb => ⟨strAt_ne (ht.stay lt h.1.1.2) (txC_ns nil_ns) h.1.2.1 Zd b hb, strAt_ne h.2.1 rbx2_ns h.1.2.1 Zd b hb⟩⟩) Zk (fun hp => ?_)
 obtain ⟨⟨hgr, hyc⟩, hnA⟩ := hp
 have T : TC W w gt gr y.1 4 y.2 ws1 := ⟨hW, lt, Nat.le_trans hW.size hgr, by omega, hnA, hyc, by decide, by decide⟩
 refine K0.impM (Φ' := TS W w gt gr y.1 4 ws1 (Px 0 0 0 0 0 0 N9 0 0 (-1)) (Lw y.1 4 y.2 4 false)) (fun u h => ⟨⟨h.1.1.1, fun b h1 h2 _ _ => h.1.1.2 b h1 h2, ht.stay lt h.1.1.2, by rw [rbx_full]; exact h.2.1⟩, h.1.2.1⟩) Zk ?_
 refine ZR ?_
 refine K0.mut (L := [gr]) (Φ' := fun _ : Unit => TS W w gt gr y.1 4 ws1 (Px 0 0 0 0 0 0 N9 0 0 (-1)) (Lw y.1 4 y.2 3 false)) (fun w1 hw h => Ob (TS.re T hw h) (show Suf ws1 4 (sceneN :: [[52], [52], whiteN]) from ⟨rfl, by decide⟩) h.t.br) (TS.ownr T) (fun _ wa u e1 e2 h hG => h.mr T e1 e2 hG) Zk Zk (fun _ => ?_)
 refine ZR ?_
 refine ZI true ?_
 refine ZA (Ln 3 ⟨gt, 8, none⟩) (.int .i64 0) (fun w1 hw h => K9 Zk (by rw [h.t.bt.cell]; rfl)) ?_
 refine K0.mut (L := [gt]) (Φ' := fun _ : Unit => TS W w gt gr y.1 4 ws1 (Px 0 0 0 0 0 0 N9 0 0 (-1)) (Lw y.1 4 y.2 3 false)) (fun w1 hw h => step_s hw T.lt h.t.bt (by show 7 < 10; decide)) (TS.ownt T) (fun _ wa u e1 e2 h hG => h.mt T e1 e2 hG) Zk Zk (fun _ => ?_)
 refine ZR ?_
 refine K0.mut (L := [gr]) (Φ' := fun _ : Unit => TS W w gt gr y.1 4 ws1 (Px 0 0 0 0 0 0 N9 0 0 (-1)) (Lw y.1 4 y.2 2 false)) (fun w1 hw h => by have t := Oa (TS.re T hw h) (show Suf ws1 4 (ws1.drop 1) from ⟨rfl, by decide⟩) h.t.br; rw [show rdN false (ws1.drop 1) = some (4, ws1.drop 2, false) from by decide +kernel] at t; exact t) (TS.ownr T) (fun _ wa u e1 e2 h hG => h.mr T e1 e2 hG) Zk Zk (fun _ => ?_)
 refine ZR ?_
 refine K0.mutSt (L := [gt]) (G := fun u => K8 u gt (Px 4 0 0 0 0 0 N9 0 0 (-1))) (Φ' := TS W w gt gr y.1 4 ws1 (Px 4 0 0 0 0 0 N9 0 0 (-1)) (Lw y.1 4 y.2 2 false)) (stS 3 ⟨gt, 0, none⟩ (.int .i64 4)) (fun w1 hw h => h.t.bt.store1 (j := 0) Zk rfl (by show 0 < 10; decide) rfl) (TS.ownt T) (fun wa u e1 e2 h hG => h.mt T e1 e2 hG) Zk Zk ?_
 refine ZR ?_
 refine K0.mut (L := [gr]) (Φ' := fun _ : Unit => TS W w gt gr y.1 4 ws1 (Px 4 0 0 0 0 0 N9 0 0 (-1)) (Lw y.1 4 y.2 1 false)) (fun w1 hw h => by have t := Oa (TS.re T hw h) (show Suf ws1 4 (ws1.drop 2) from ⟨rfl, by decide⟩) h.t.br; rw [show rdN false (ws1.drop 2) = some (4, ws1.drop 3, false) from by decide +kernel] at t; exact t) (TS.ownr T) (fun _ wa u e1 e2 h hG => h.mr T e1 e2 hG) Zk Zk (fun _ => ?_)
 refine ZR ?_
 refine K0.mutSt (L := [gt]) (G := fun u => K8 u gt (Px 4 4 0 0 0 0 N9 0 0 (-1))) (Φ' := TS W w gt gr y.1 4 ws1 (Px 4 4 0 0 0 0 N9 0 0 (-1)) (Lw y.1 4 y.2 1 false)) (stS 3 ⟨gt, 1, none⟩ (.int .i64 4)) (fun w1 hw h => h.t.bt.store1 (j := 1) Zk rfl (by show 1 < 10; decide) rfl) (TS.ownt T) (fun wa u e1 e2 h hG => h.mt T e1 e2 hG) Zk Zk ?_
 refine ZR ?_
 refine K0.mut (L := [gr]) (Φ' := fun _ : Unit => TS W w gt gr y.1 4 ws1 (Px 4 4 0 0 0 0 N9 0 0 (-1)) (Lw y.1 4 y.2 0 false)) (fun w1 hw h => by have t := colour_t (TS.re T hw h) (show Suf ws1 4 (ws1.drop 3) from ⟨rfl, by decide⟩) h.t.br; rw [show rdC false (ws1.drop 3) = some ((255, 255, 255, 255), ws1.drop 4, false) from by decide +kernel] at t; exact t) (TS.ownr T) (fun _ wa u e1 e2 h hG => h.mr T e1 e2 hG) Zk Zk (fun _ => ?_)
 refine ZR ?_
 refine K0.mutSt (L := [gt]) (G := fun u => K8 u gt (Px 4 4 255 255 255 255 N9 0 0 (-1))) (Φ' := TS W w gt gr y.1 4 ws1 (Px 4 4 255 255 255 255 N9 0 0 (-1)) (Lw y.1 4 y.2 0 false)) (stS 23 ⟨gt, 2, none⟩ (P8 (255, 255, 255, 255))) (fun w1 hw h => h.t.bt.storeN (j := 2) Zk Zd Zd) (TS.ownt T) (fun wa u e1 e2 h hG => h.mt T e1 e2 hG) Zk Zk ?_
 refine ZR ?_
 refine K0.mut (L := [gr]) (Φ' := fun _ : Unit => TS W w gt gr y.1 4 ws1 (Px 4 4 255 255 255 255 N9 0 0 (-1)) (Lw y.1 4 y.2 0 false)) (fun w1 hw h => end_s hw T.lr h.t.br) (TS.ownr T) (fun _ wa u e1 e2 h hG => h.mr T e1 e2 hG) Zk Zk (fun _ => ?_)
 refine ZR ?_
 refine ZA (Ln 4 ⟨gr, 1, none⟩) (.bool false) (fun w1 hw h => K9 Zk (by rw [h.t.br.cell]; rfl)) ?_
 refine ZI false ?_
 refine ZV (.tuple #[]) (fun w1 hw h => (h w1 (Nat.le_refl _) fun _ _ _ => rfl).post T hgr hw)
theorem take_2 (hM : ML W) (hW : Below W.heap.size W w) (lt : W.heap.size ≤ gt) (ht : K8 w gt (Px 4 4 255 255 255 255 N9 0 1 (-1))) : Calls Tryz.prog 87 #[.pointer (some ⟨gt, 0, none⟩), K4 Qt] w (Nr w [gt] (fun _ : Value => .tuple #[]) fun l u => K8 u gt (Px 4 4 255 255 255 255 l 1 1 (-1))) := by
 have hgt := ht.lt
 refine K0.enterW Tryz.func87 rfl hW ?_
 refine ZR ?_
 refine ZC (fun w1 hw h => sf2 (hM.below hw)) fun y => ?_
 refine K0.cond false Zk ?_
 refine ZS 2 ?_
 refine K0.make (boxS 114 (.agg #[.slice y.1 5 y.2, .bool false])) (ptr) (fun g u => K8 u g [.slice y.1 5 y.2, .bool false] ∧ w.heap.size ≤ g ∧ g < u.heap.size) Zk (fun w1 hw h => make_box (v := .agg #[.slice y.1 5 y.2, .bool false]) h.1.1) (fun gr => ?_)
 refine ZS 2 ?_
 refine K0.pure_ (p := (w.heap.size ≤ gr ∧ 5 ≤ y.2) ∧ ∀ b ∈ bl y.1, b ≠ gt ∧ b ≠ gr) (fun u hu h => ⟨⟨h.2.2.1, h.1.2.2⟩, fun b hb => ⟨strAt_ne (ht.stay lt h.1.1.2) (txC_ns nil_ns) h.1.2.1 Zd b hb, strAt_ne h.2.1 rbx2_ns h.1.2.1 Zd b hb⟩⟩) Zk (fun hp => ?_)
 obtain ⟨⟨hgr, hyc⟩, hnA⟩ := hp
 have T : TC W w gt gr y.1 5 y.2 ws2 := ⟨hW, lt, Nat.le_trans hW.size hgr, by omega, hnA, hyc, by decide, by decide⟩
 refine K0.impM (Φ' := TS W w gt gr y.1 5 ws2 (Px 4 4 255 255 255 255 N9 0 1 (-1)) (Lw y.1 5 y.2 5 false)) (fun u h => ⟨⟨h.1.1.1, fun b h1 h2 _ _ => h.1.1.2 b h1 h2, ht.stay lt h.1.1.2, by rw [rbx_full]; exact h.2.1⟩, h.1.2.1⟩) Zk ?_
 refine ZR ?_
 refine K0.mut (L := [gr]) (Φ' := fun _ : Unit => TS W w gt gr y.1 5 ws2 (Px 4 4 255 255 255 255 N9 0 1 (-1)) (Lw y.1 5 y.2 4 false)) (fun w1 hw h => Ob (TS.re T hw h) (show Suf ws2 5 (shapeN :: [[49], [48], [110, 111, 110, 122, 101, 114, 111], []]) from ⟨rfl, by decide⟩) h.t.br) (TS.ownr T) (fun _ wa u e1 e2 h hG => h.mr T e1 e2 hG) Zk Zk (fun _ => ?_)
 refine ZR ?_
 refine ZI false ?_
 refine ZI false ?_
 refine ZI true ?_
 refine ZI true ?_
 refine K0.mut (X := Value) (L := [gt, gr]) (g := 160) (args := #[.pointer (some ⟨gt, 0, none⟩), .pointer (some ⟨gr, 0, none⟩), K4 shapeN]) (val := fun _ => .tuple #[]) (G := fun l u => K8 u gt (Px 4 4 255 255 255 255 l 1 1 (-1)) ∧ K8 u gr (Lw y.1 5 y.2 0 false)) (Φ' := fun l => TS W w gt gr y.1 5 ws2 (Px 4 4 255 255 255 255 l 1 1 (-1)) (Lw y.1 5 y.2 0 false)) (fun w1 hw h => begin_s (T.at hw) h.s h.t.bt h.t.br) (TS.ownb T) (fun _ wa u e1 e2 h hG => h.mb T e1 e2 hG) Zk Zk (fun l => ?_)
 refine ZR ?_
 refine K0.mut (L := [gr]) (Φ' := fun _ : Unit => TS W w gt gr y.1 5 ws2 (Px 4 4 255 255 255 255 l 1 1 (-1)) (Lw y.1 5 y.2 0 false)) (fun w1 hw h => end_s hw T.lr h.t.br) (TS.ownr T) (fun _ wa u e1 e2 h hG => h.mr T e1 e2 hG) Zk Zk (fun _ => ?_)
 refine ZR ?_
 refine ZA (Ln 4 ⟨gr, 1, none⟩) (.bool false) (fun w1 hw h => K9 Zk (by rw [h.t.br.cell]; rfl)) ?_
 refine ZI false ?_
 refine ZV (.tuple #[]) (fun w1 hw h => ?_)
 obtain ⟨x, h1, h2, h3⟩ := (h w1 (Nat.le_refl _) fun _ _ _ => rfl).post (val := .tuple #[]) T hgr hw
 exact ⟨l, h1, h2, h3⟩
end
def cell1 (fn : Func) (σ : AS) : Option (Nat × TypeId) :=
 match fn.results.toList with
 | [.cell t ty] => match σ.tmps.getD t (.v undef) with
  | .v (.pointer (some ⟨g, 0, none⟩)) => some (g, ty)
  | _ => none
 | _ => none
theorem cell1_ok {P : Program} {Δ : List Deferred} {W : World} {Φ : World → Prop} {fn : Func} {σ : AS} {β : Nat → Nat} {a : Act} {w w' : World} {g : Nat} {ty : TypeId} {v : Value} (hc : cell1 fn σ = some (g, ty)) (hr : Pw Δ W β σ Φ a w)
 (h1 : (loadVar ty ⟨g, 0, none⟩).run P w' = .ok v w') : (results fn a.tmps).run P w' = .ok v w' := by
 unfold cell1 at hc
 split at hc
 ·rename_i t ty' hres
  split at hc
  ·rename_i gg e1
   simp only [Option.some.injEq, Prod.mk.injEq] at hc
   obtain ⟨rfl, rfl⟩ := hc
   have hg1 : a.tmps.getD t undef = .pointer (some ⟨gg, 0, none⟩) := by
    have := hr.eval (.tmp t)
    simp only [Act.eval, AS.eval, e1, AV.conc] at this
    exact this
   rw [results_sem, Sem.run_bind, Array.mapM_eq_mapM_toList, Sem.run_map, hres, List.mapM_cons, Sem.run_bind]
   simp only [resSem, hg1, asAddr, Sem.run_bind, Sem.run_pure, Result.andThen_ok, h1, List.mapM_nil, List.mapM_cons]
   rfl
  ·cases hc
 ·cases hc
section
variable {P : Program} {W : World} {Φ : World → Prop} {c : O8} {fn : Func} {R : Ending → World → Prop} {fv : Fn} {cap dargs : Array Value} {f : FuncId} {args : Array Value}
theorem K0.panD1 {ch : List PanicEntry} (g : Nat) (ty : TypeId) (hfo : c.foc = .out (.panic ch)) (hc : cell1 fn c.st = some (g, ty)) (hi : ∀ w, (invoke (.fn fv cap) dargs).run P w = .ok (.enter f args) w)
 (h : ∀ w, Below W.heap.size W w → Φ w → CallsD P f args (.panicking ch) w fun e u w' => settle u = .returning ∧ ∃ x v, e = .returned x ∧ (loadVar ty ⟨g, 0, none⟩).run P w' = .ok v w' ∧ R (.returned v) w') :
 K0 P [⟨.fn fv cap, dargs⟩] W (bodyPostD P fn R) Φ c := by
 obtain ⟨foc, k, σ⟩ := c
 refine ⟨?_⟩
 simp only at hfo
 subst hfo
 intro hwf β a w hr
 refine post_pan k ?_
 show Leaves P fn a.tmps R a.defers (.panicking ch) w
 rw [hr.defers]
 refine leaves_cons Zs (hi w) ((h w hr.bel hr.phi).mono fun e u' w' he => ?_)
 obtain ⟨hu, x, v, rfl, k1, hR⟩ := he
 show Leaves P fn a.tmps R [] (settle u') w'
 rw [hu]
 exact ⟨_, cell1_ok hc hr k1, hR⟩
end
section
variable {W w : World} {gt go c : Nat} {A : Option Addr} {b : Bool}
theorem all1_r (hW : Below W.heap.size W w) : CallsD Tryz.prog 86 #[.pointer (some ⟨go, 0, none⟩)] .returning w (fun e u' w' => u' = .returning ∧ (e = .returned (.tuple #[]) ∧ Below W.heap.size W w' ∧ Stay W w w')) := by
 refine K0.enterRec (rv := .nilIface) Tryz.func86 rfl (fun ρ w => rfl) rfl rfl rfl rfl rfl (by show 4 < 1 + (15 - 1); decide) (fun c₀ cs hu => ?_) hW ?_
 ·simp [recoverD, hu]
 refine ZR ?_
 refine ZI true ?_
 refine ZV (.tuple #[]) (fun w1 hw h => ⟨rfl, hw, h w1 (Nat.le_refl _) fun _ _ _ => rfl⟩)
theorem all1_p (hW : Below W.heap.size W w) (ho : K8 w go [.bool b]) (lo : W.heap.size ≤ go) : CallsD Tryz.prog 86 #[.pointer (some ⟨go, 0, none⟩)] (.panicking pch) w (fun e u' w' => u' = .panicking [{ v := Kw, recovered := true }] ∧ (e = .returned (.tuple #[]) ∧ Below W.heap.size W w' ∧ P4 W w go [.bool false] w')) := by
 refine K0.enterRec (rv := Kw) Tryz.func86 rfl (fun ρ w => rfl) rfl rfl rfl rfl rfl (by show 4 < 1 + (15 - 1); decide) (fun c₀ cs hu => ?_) hW ?_
 ·simp [recoverD, hu, pch]
 refine ZR ?_
 refine ZI false ?_
 refine ZR ?_
 refine ZI false ?_
 refine K0.mutSt (L := [go]) (G := fun u => K8 u go [.bool false]) (Φ' := P4 W w go [.bool false]) (stS 4 ⟨go, 0, none⟩ (.bool false)) (fun w1 hw h => (ho.stay lo h.2).store Zk rfl (by intro u hu; simp [Value.cells] at hu; subst hu; rfl)) (fun u h b hb => ?_) (fun wa u e1 e2 h hG => ⟨by rw [← e1]; exact h.1, fun b h1 h2 h3 => (e2 b (by simpa using h3)).symm.trans (h.2 b h1 h2), hG⟩) Zk Zk ?_
 ·obtain rfl : b = go := by simpa using hb
  exact ⟨lo, (ho.stay lo h.2).own⟩
 refine ZR ?_
 refine ZV (.tuple #[]) (fun w1 hw h => ⟨rfl, hw, h w1 (Nat.le_refl _) fun _ _ _ => rfl⟩)
theorem L6.stay {u : World} {B n : Nat} {ws : WS} (h : L6 w A n ws) (hA : ∀ b ∈ bl A, B ≤ b) (hs : ∀ b, B ≤ b → b < w.heap.size → u.heap[b]? = w.heap[b]?) : L6 u A n ws :=
 ⟨h.1, fun k s hk => by
  obtain ⟨ad, h1, h2⟩ := h.2 k s hk
  have hlt := cell_lt h2
  rw [Od] at hlt
  exact ⟨ad, h1, cell_to h2 (by rw [Od]; exact hs _ (hA _ (by rw [h1]; simp [bl])) hlt)⟩⟩
theorem one_ns {b : Bool} : ∀ v ∈ [Value.bool b], ∀ s, v ≠ K4 s := by
 intro v hv s e
 subst e
 simp only [List.mem_cons, List.not_mem_nil, or_false] at hv
 cases hv
theorem bool_st {w1 : World} {g : Nat} {v b : Bool} (h : K8 w1 g [.bool b]) : ∃ w', (stS 4 ⟨g, 0, none⟩ (.bool v)).run Tryz.prog w1 = .ok .skip w' ∧ Chg [g] w1 w' ∧ ∀ w'', w'.heap.size ≤ w''.heap.size → (∀ b ∈ [g], w''.heap[b]? = w'.heap[b]?) → K8 w'' g [.bool v] := h.store Zk rfl (by intro u hu; simp [Value.cells] at hu; subst hu; rfl)
theorem all_1 (hM : ML W) (hW : Below W.heap.size W w) (lt : W.heap.size ≤ gt) (hs : L6 w A 1 [Mn]) (hA : ∀ b ∈ bl A, W.heap.size ≤ b) (ht : K8 w gt (Px 0 0 0 0 0 0 N9 0 0 (-1))) : Calls Tryz.prog 34 #[.pointer (some ⟨gt, 0, none⟩), .slice A 1 c] w (Nr w [gt] (fun _ : Unit => .bool true) fun _ u => K8 u gt (Px 4 4 255 255 255 255 N9 0 1 (-1))) := by
 have hgt := ht.lt
 refine K0.enterD Tryz.func34 rfl hW ?_
 refine ZS 0 ?_
 refine K0.make (allS 4) (ptr) (fun g u => K8 u g [.bool false] ∧ w.heap.size ≤ g ∧ g < u.heap.size) Zk (fun w1 hw h => make_all (z := .bool false) Zk h.1) (fun go => ?_)
 refine ZR ?_
 refine K0.pure_ (p := w.heap.size ≤ go ∧ ∀ b ∈ bl A, b ≠ gt ∧ b ≠ go) (fun u hu h => ⟨h.2.2.1, fun b hb => ⟨strAt_ne ht (txC_ns nil_ns) hs Zd b hb, strAt_ne h.2.1 one_ns (hs.stay hA h.1.2) Zd b hb⟩⟩) Zk (fun hp => ?_)
 obtain ⟨hgo, hnA⟩ := hp
 have T : TC W w gt go A 1 1 [Mn] := ⟨hW, lt, Nat.le_trans hW.size hgo, by omega, hnA, Nat.le_refl _, by decide, by decide⟩
 obtain ⟨ad, hAd, _⟩ := hs.2 0 _ rfl
 refine K0.impM (Φ' := TS W w gt go A 1 [Mn] (Px 0 0 0 0 0 0 N9 0 0 (-1)) [.bool false]) (fun u h => ⟨⟨h.1.1, fun b h1 h2 _ _ => h.1.2 b h1 h2, ht.stay lt h.1.2, h.2.1⟩, hs.stay hA h.1.2⟩) Zk ?_
 refine K0.mutSt (L := [go]) (G := fun u => K8 u go [.bool true]) (Φ' := TS W w gt go A 1 [Mn] (Px 0 0 0 0 0 0 N9 0 0 (-1)) [.bool true]) (stS 4 ⟨go, 0, none⟩ (.bool true)) (fun w1 hw h => bool_st h.t.br) (TS.ownr T) (fun wa u e1 e2 h hG => h.mr T e1 e2 hG) Zk Zk ?_
 refine ZR ?_
 refine K0.defer_ ⟨.fn (.func 86) #[.pointer (some ⟨go, 0, none⟩)], #[]⟩ Zk Zk ?_
 refine ZR ?_
 refine K0.un Zk ?_
 refine ZR ?_
 refine ZI true ?_
 refine ZA (Kx 64 (.slice A 1 c) 0) (.pointer (some (ad.add 0))) (fun w1 hw h => by rw [hAd]; exact Kh (k := 0) (elem := 9) Zk Zk Zd) ?_
 refine ZA (Ln 9 (ad.add 0)) (K4 Mn) (fun w1 hw h => K9 Zk (by obtain ⟨ad2, q1, q2⟩ := h.s.2 0 Mn rfl; obtain rfl := Option.some.inj (hAd.symm.trans q1); exact q2)) ?_
 refine K0.mutSt (L := [gt]) (G := fun u => K8 u gt (Px 0 0 0 0 0 0 N9 0 0 (-1))) (Φ' := TS W w gt go A 1 [Mn] (Px 0 0 0 0 0 0 N9 0 0 (-1)) [.bool true]) (stS 3 ⟨gt, 8, none⟩ (.int .i64 0)) (fun w1 hw h => h.t.bt.store1 (j := 8) Zk rfl (by show 8 < 10; decide) rfl) (TS.ownt T) (fun wa u e1 e2 h hG => h.mt T e1 e2 hG) Zk Zk ?_
 refine ZR ?_
 refine K0.mut (L := [gt]) (Φ' := fun _ : Unit => TS W w gt go A 1 [Mn] (Px 4 4 255 255 255 255 N9 0 0 (-1)) [.bool true]) (fun w1 hw h => take_1 hM hw lt h.t.bt) (TS.ownt T) (fun _ wa u e1 e2 h hG => h.mt T e1 e2 hG) Zk Zk (fun _ => ?_)
 refine ZR ?_
 refine ZI false ?_
 refine K0.mutSt (L := [gt]) (G := fun u => K8 u gt (Px 4 4 255 255 255 255 N9 0 1 (-1))) (Φ' := TS W w gt go A 1 [Mn] (Px 4 4 255 255 255 255 N9 0 1 (-1)) [.bool true]) (stS 3 ⟨gt, 8, none⟩ (.int .i64 1)) (fun w1 hw h => h.t.bt.store1 (j := 8) Zk rfl (by show 8 < 10; decide) rfl) (TS.ownt T) (fun wa u e1 e2 h hG => h.mt T e1 e2 hG) Zk Zk ?_
 refine ZR ?_
 refine ZA (Ln 3 ⟨gt, 7, none⟩) (.int .i64 0) (fun w1 hw h => K9 Zk (by rw [h.t.bt.cell]; rfl)) ?_
 refine ZI false ?_
 refine ZA (Ln 4 ⟨go, 0, none⟩) (.bool true) (fun w1 hw h => K9 Zk h.t.br.one) ?_
 refine K0.mutSt (L := [go]) (G := fun u => K8 u go [.bool true]) (Φ' := TS W w gt go A 1 [Mn] (Px 4 4 255 255 255 255 N9 0 1 (-1)) [.bool true]) (stS 4 ⟨go, 0, none⟩ (.bool true)) (fun w1 hw h => bool_st h.t.br) (TS.ownr T) (fun wa u e1 e2 h hG => h.mr T e1 e2 hG) Zk Zk ?_
 refine ZR ?_
 refine K0.retD1 (f := 86) (args := #[.pointer (some ⟨go, 0, none⟩)]) go 4 Zk (fun w1 => rfl) (fun w1 hw h => ?_)
 refine (all1_r hw).mono fun e u' w' he => ?_
 obtain ⟨rfl, rfl, hb, hst⟩ := he
 refine ⟨rfl, _, _, rfl, load_box1 Zk (h.t.br.stay T.lr hst.2), ?_⟩
 exact Tx.post1 T hgo hb ⟨Nat.le_trans h.t.sz hst.1, fun b h1 h2 h3 h4 => (hst.2 b h1 (Nat.lt_of_lt_of_le h2 h.t.sz)).trans (h.t.fr b h1 h2 h3 h4), h.t.bt.stay T.lt hst.2, h.t.br.stay T.lr hst.2⟩
theorem all_2 (hM : ML W) (hW : Below W.heap.size W w) (lt : W.heap.size ≤ gt) (hs : L6 w A 2 [Mn, Qt]) (hA : ∀ b ∈ bl A, W.heap.size ≤ b) (ht : K8 w gt (Px 0 0 0 0 0 0 N9 0 0 (-1))) : Calls Tryz.prog 34 #[.pointer (some ⟨gt, 0, none⟩), .slice A 2 c] w (Nr w [gt] (fun _ : Value => .bool false) fun l u => K8 u gt (Px 4 4 255 255 255 255 l 1 2 (-1))) := by
 have hgt := ht.lt
 refine K0.enterD Tryz.func34 rfl hW ?_
 refine ZS 0 ?_
 refine K0.make (allS 4) (ptr) (fun g u => K8 u g [.bool false] ∧ w.heap.size ≤ g ∧ g < u.heap.size) Zk (fun w1 hw h => make_all (z := .bool false) Zk h.1) (fun go => ?_)
 refine ZR ?_
 refine K0.pure_ (p := w.heap.size ≤ go ∧ ∀ b ∈ bl A, b ≠ gt ∧ b ≠ go) (fun u hu h => ⟨h.2.2.1, fun b hb => ⟨strAt_ne ht (txC_ns nil_ns) hs Zd b hb, strAt_ne h.2.1 one_ns (hs.stay hA h.1.2) Zd b hb⟩⟩) Zk (fun hp => ?_)
 obtain ⟨hgo, hnA⟩ := hp
 have T : TC W w gt go A 2 2 [Mn, Qt] := ⟨hW, lt, Nat.le_trans hW.size hgo, by omega, hnA, Nat.le_refl _, by decide, by decide⟩
 obtain ⟨ad, hAd, _⟩ := hs.2 0 _ rfl
 refine K0.impM (Φ' := TS W w gt go A 2 [Mn, Qt] (Px 0 0 0 0 0 0 N9 0 0 (-1)) [.bool false]) (fun u h => ⟨⟨h.1.1, fun b h1 h2 _ _ => h.1.2 b h1 h2, ht.stay lt h.1.2, h.2.1⟩, hs.stay hA h.1.2⟩) Zk ?_
 refine K0.mutSt (L := [go]) (G := fun u => K8 u go [.bool true]) (Φ' := TS W w gt go A 2 [Mn, Qt] (Px 0 0 0 0 0 0 N9 0 0 (-1)) [.bool true]) (stS 4 ⟨go, 0, none⟩ (.bool true)) (fun w1 hw h => bool_st h.t.br) (TS.ownr T) (fun wa u e1 e2 h hG => h.mr T e1 e2 hG) Zk Zk ?_
 refine ZR ?_
 refine K0.defer_ ⟨.fn (.func 86) #[.pointer (some ⟨go, 0, none⟩)], #[]⟩ Zk Zk ?_
 refine ZR ?_
 refine K0.un Zk ?_
 refine ZR ?_
 refine ZI true ?_
 refine ZA (Kx 64 (.slice A 2 c) 0) (.pointer (some (ad.add 0))) (fun w1 hw h => by rw [hAd]; exact Kh (k := 0) (elem := 9) Zk Zk Zd) ?_
 refine ZA (Ln 9 (ad.add 0)) (K4 Mn) (fun w1 hw h => K9 Zk (by obtain ⟨ad2, q1, q2⟩ := h.s.2 0 Mn rfl; obtain rfl := Option.some.inj (hAd.symm.trans q1); exact q2)) ?_
 refine K0.mutSt (L := [gt]) (G := fun u => K8 u gt (Px 0 0 0 0 0 0 N9 0 0 (-1))) (Φ' := TS W w gt go A 2 [Mn, Qt] (Px 0 0 0 0 0 0 N9 0 0 (-1)) [.bool true]) (stS 3 ⟨gt, 8, none⟩ (.int .i64 0)) (fun w1 hw h => h.t.bt.store1 (j := 8) Zk rfl (by show 8 < 10; decide) rfl) (TS.ownt T) (fun wa u e1 e2 h hG => h.mt T e1 e2 hG) Zk Zk ?_
 refine ZR ?_
 refine K0.mut (L := [gt]) (Φ' := fun _ : Unit => TS W w gt go A 2 [Mn, Qt] (Px 4 4 255 255 255 255 N9 0 0 (-1)) [.bool true]) (fun w1 hw h => take_1 hM hw lt h.t.bt) (TS.ownt T) (fun _ wa u e1 e2 h hG => h.mt T e1 e2 hG) Zk Zk (fun _ => ?_)
 refine ZR ?_
 refine ZI true ?_
 refine ZA (Kx 64 (.slice A 2 c) 1) (.pointer (some (ad.add 1))) (fun w1 hw h => by rw [hAd]; exact Kh (k := 1) (elem := 9) Zk Zk Zd) ?_
 refine ZA (Ln 9 (ad.add 1)) (K4 Qt) (fun w1 hw h => K9 Zk (by obtain ⟨ad2, q1, q2⟩ := h.s.2 1 Qt rfl; obtain rfl := Option.some.inj (hAd.symm.trans q1); exact q2)) ?_
 refine K0.mutSt (L := [gt]) (G := fun u => K8 u gt (Px 4 4 255 255 255 255 N9 0 1 (-1))) (Φ' := TS W w gt go A 2 [Mn, Qt] (Px 4 4 255 255 255 255 N9 0 1 (-1)) [.bool true]) (stS 3 ⟨gt, 8, none⟩ (.int .i64 1)) (fun w1 hw h => h.t.bt.store1 (j := 8) Zk rfl (by show 8 < 10; decide) rfl) (TS.ownt T) (fun wa u e1 e2 h hG => h.mt T e1 e2 hG) Zk Zk ?_
 refine ZR ?_
 refine K0.mut (X := Value) (L := [gt]) (g := 87) (args := #[.pointer (some ⟨gt, 0, none⟩), K4 Qt]) (val := fun _ => .tuple #[]) (G := fun l u => K8 u gt (Px 4 4 255 255 255 255 l 1 1 (-1))) (Φ' := fun l => TS W w gt go A 2 [Mn, Qt] (Px 4 4 255 255 255 255 l 1 1 (-1)) [.bool true]) (fun w1 hw h => take_2 hM hw lt h.t.bt) (TS.ownt T) (fun _ wa u e1 e2 h hG => h.mt T e1 e2 hG) Zk Zk (fun l => ?_)
 refine ZR ?_
 refine ZI false ?_
 refine K0.mutSt (L := [gt]) (G := fun u => K8 u gt (Px 4 4 255 255 255 255 l 1 2 (-1))) (Φ' := TS W w gt go A 2 [Mn, Qt] (Px 4 4 255 255 255 255 l 1 2 (-1)) [.bool true]) (stS 3 ⟨gt, 8, none⟩ (.int .i64 2)) (fun w1 hw h => h.t.bt.store1 (j := 8) Zk rfl (by show 8 < 10; decide) rfl) (TS.ownt T) (fun wa u e1 e2 h hG => h.mt T e1 e2 hG) Zk Zk ?_
 refine ZR ?_
 refine ZA (Ln 3 ⟨gt, 7, none⟩) (.int .i64 1) (fun w1 hw h => K9 Zk (by rw [h.t.bt.cell]; rfl)) ?_
 refine ZI true ?_
 refine K0.throw (Instr.panic Kw >>= fun v => pure (.value v)) Kw Zk (fun w1 hw h => by simp [Instr.panic, Kw, Go.goPanic]) Zk ?_
 refine K0.panD1 (f := 86) (args := #[.pointer (some ⟨go, 0, none⟩)]) go 4 rfl Zk (fun w1 => rfl) (fun w1 hw h => ?_)
 refine (all1_p hw h.t.br T.lr).mono fun e u' w' he => ?_
 obtain ⟨rfl, rfl, hb, hst⟩ := he
 have hbt : K8 w' gt (Px 4 4 255 255 255 255 l 1 2 (-1)) := h.t.bt.to (hst.2.1 gt T.lt h.t.bt.lt T.ne)
 refine ⟨rfl, _, _, rfl, load_box1 Zk hst.2.2, ?_⟩
 obtain ⟨x, h1, h2, h3⟩ := Tx.post1 (val := .bool false) T hgo hb ⟨Nat.le_trans h.t.sz hst.1, fun b h1 h2 h3 h4 => (hst.2.1 b h1 (Nat.lt_of_lt_of_le h2 h.t.sz) h4).trans (h.t.fr b h1 h2 h3 h4), hbt, hst.2.2⟩
 exact ⟨l, h1, h2, h3⟩
end
def mapS (t : TypeId) : Sem Next := Instr.makeMap t none >>= fun v => pure (.value v)
theorem make_map {P : Program} {w : World} {t : TypeId} : M6 P w (fun g : Nat => .map (some g)) (fun _ _ => True) (mapS t) :=
 ⟨w.heap.size, w.alloc (.map #[] 0), by simp only [mapS, Instr.makeMap, Sem.run_bind, run_newObj_alloc, Result.andThen_ok, Sem.run_pure], below_new _ _, fun _ _ _ => trivial⟩
def text1 : List UInt8 := Mn ++ [10]
def text2 : List UInt8 := Mn ++ [10] ++ Qt ++ [10]
@[reducible] def scC : List Value := [.int .i64 4, .int .i64 4, .int .u8 255, .int .u8 255, .int .u8 255, .int .u8 255, .slice none 0 0]
@[reducible] def scV : Value := .agg #[.int .i64 4, .int .i64 4, .int .u8 255, .int .u8 255, .int .u8 255, .int .u8 255, .slice none 0 0]
@[reducible] def scZ : Value := .agg #[.int .i64 0, .int .i64 0, .int .u8 0, .int .u8 0, .int .u8 0, .int .u8 0, .slice none 0 0]
section
variable {w : World} {N : Nat}
theorem check_e : Calls Tryz.prog 88 #[scV] w (K5 w (fun _ : Unit => .tuple #[.int .i64 0, .int .i64 0]) fun _ _ => True) := by
 refine K0.enter Tryz.func88 rfl ?_
 refine ZR ?_
 refine ZI false ?_
 refine ZI false ?_
 refine K0.make (mapS 199) (fun g : Nat => .map (some g)) (fun _ _ => True) Zk (fun w1 hw h => make_map) (fun m => ?_)
 refine ZR ?_
 refine K0.un Zk ?_
 refine ZR ?_
 refine ZI false ?_
 exact ZW (.tuple #[.int .i64 0, .int .i64 0])
theorem svalid_e : Calls Tryz.prog 35 #[scV] w (K5 w (fun _ : Unit => .bool true) fun _ _ => True) := by
 refine K0.enter Tryz.func35 rfl ?_
 refine ZR ?_
 refine ZC (fun w1 hw h => check_e) fun u => ?_
 exact ZW (.bool true)
theorem joinF1 : M4 ws1 = Mn := by decide +kernel
theorem joinN1 : joinN [Mn] = text1 := by decide +kernel
theorem fmt4 : K7 4 = [52] := by decide +kernel
theorem colW1 : Mp (255, 255, 255, 255) = whiteN := by decide +kernel
theorem fi4 : Calls Tryz.prog 36 #[.int .i64 4] w (K5 w (fun _ : Unit => K4 [52]) fun _ _ => True) := by
 have t := M3 (w := w) (n := 4) Zd Zd; rw [fmt4] at t; exact t
theorem fc1 : Calls Tryz.prog 37 #[.agg #[.int .u8 255, .int .u8 255, .int .u8 255, .int .u8 255]] w (K5 w (fun _ : Unit => K4 whiteN) fun _ _ => True) := by
 have t := fcolor_m (w := w) (k := (255, 255, 255, 255)); rw [colW1] at t; exact t
theorem jf1 {A : Option Addr} {c : Nat} (hs : L6 w A 4 ws1) : Calls Tryz.prog 17 #[.slice A 4 c] w (K5 w (fun _ : Unit => K4 Mn) fun _ _ => True) := by
 have t := joinFields_m (c := c) hs Zd Zd; rw [joinF1] at t; exact t
theorem jn1 {A : Option Addr} {c : Nat} (hs : L6 w A 1 [Mn]) : Calls Tryz.prog 39 #[.slice A 1 c] w (K5 w (fun _ : Unit => K4 text1) fun _ _ => True) := by
 have t := joinLines_m (c := c) hs Zd Zd; rw [joinN1] at t; exact t
theorem format_e : Calls Tryz.prog 15 #[scV] w (K5 w (fun _ : Unit => .tuple #[K4 text1, .int .i64 0]) fun _ _ => True) := by
 refine K0.enter Tryz.func15 rfl ?_
 refine ZR ?_
 refine ZC (fun w1 hw h => svalid_e) fun u => ?_
 refine ZI false ?_
 refine ZC (fun w1 hw h => fi4) fun a => ?_
 refine ZC (fun w1 hw h => fi4) fun b => ?_
 refine ZD 9 (fun w1 hw h => fc1) fun d => ?_
 refine K0.make (Li (64) 4 #[(0, .string ⟨#[115, 99, 101, 110, 101]⟩), (1, K4 [52]), (2, K4 [52]), (3, K4 whiteN)]) (Ki 4) (L8 9 #[.string ⟨#[115, 99, 101, 110, 101]⟩, K4 [52], K4 [52], K4 whiteN]) Zk (fun w1 hw h => Kb Zk) (fun g => ?_)
 refine ZS 10 ?_
 refine ZD 11 (fun w1 hw h => jf1 (c := 4) (Lv (L := ws1) h.2 rfl)) fun j => ?_
 refine K0.make (Li (64) 1 #[(0, K4 Mn)]) (Ki 1) (L8 9 #[K4 Mn]) Zk (fun w1 hw h => Kb Zk) (fun g2 => ?_)
 refine ZR ?_
 refine K0.un Zk ?_
 refine ZR ?_
 refine ZI false ?_
 refine ZC (fun w1 hw h => jn1 (c := 1) (Lv (L := [Mn]) h.2 rfl)) fun t => ?_
 refine ZI false ?_
 exact ZW (.tuple #[K4 text1, .int .i64 0])
theorem hsuf (l : List UInt8) (hl : l.length ≤ 100000000) (h : Lib.hasSuffix l [10] = true) : Calls Tryz.prog 32 #[K4 l, .string ⟨#[10]⟩] w (K5 w (fun _ : Unit => .bool true) fun _ _ => True) :=
 (Tryz.strings_HasSuffix ⟨l.toArray⟩ ⟨#[10]⟩ w (show l.length ≤ _ by omega)).mono fun e w' k => ⟨(), by rw [k.1]; show Ending.returned (.bool (Lib.hasSuffix l [10])) = _; rw [h], by rw [k.2]; exact Below.refl _ _, fun _ _ _ => trivial⟩
theorem L6.blk {u : World} {A : Option Addr} {n : Nat} {ws : WS} (h : L6 u A n ws) (h0 : 0 < ws.length) : ∀ b ∈ bl A, ∃ cs ty own, u.heap[b]? = some (.cells cs ty own) := fun b hb => by
 obtain ⟨ad, h1, h2⟩ := h.2 0 _ (List.getElem?_eq_getElem h0)
 rw [h1] at hb
 obtain rfl : b = ad.block := by simpa [bl] using hb
 unfold World.cell? at h2
 rw [Od] at h2
 split at h2
 ·exact ⟨_, _, _, by assumption⟩
 ·cases h2
theorem sl_f {l : List UInt8} {ws : WS} {n : Nat} (hM : ML w) (hB : okN l = true) (hl : l.length ≤ 10000000) (he : linesN l = ws) (hn : ws.length = n) (h0 : 0 < ws.length) (hN : N ≤ w.heap.size) : Calls Tryz.prog 33 #[K4 l] w (K5 w (fun q : (Option Addr × Nat) × Nat => .tuple #[.slice q.1.1 n q.1.2, .int .i64 0]) fun q u => L6 u q.1.1 n ws ∧ ∀ b ∈ bl q.1.1, N ≤ b) := by
 subst hn; subst he
 refine (sl_s hM hB hl).mono fun e w' h => ?_
 obtain ⟨x, h1, h2, h3⟩ := h.fresh (fun y => bl y.1) (fun y u k b hb => k.blk h0 b hb)
 exact ⟨x, h1, h2, fun w'' k1 k2 => ⟨(h3 w'' k1 k2).1, fun b hb => Nat.le_trans hN ((h3 w'' k1 k2).2.1 b hb).1⟩⟩
theorem parse_1 (hM : ML w) : Calls Tryz.prog 14 #[K4 text1] w (K5 w (fun _ : Unit => .tuple #[scV, .int .i64 0, .int .i64 0]) fun _ _ => True) := by
 refine K0.enter Tryz.func14 rfl ?_
 refine ZR ?_
 refine ZI false ?_
 refine ZC (fun w1 hw h => hsuf text1 Zd (by decide +kernel)) fun u => ?_
 refine ZI false ?_
 refine ZD 1 (fun w1 hw h => sl_f (l := text1) (ws := [Mn]) (n := 1) (N := w.heap.size) (hM.below hw) (by decide +kernel) Zd (by decide +kernel) Zd Zd hw.size) fun q => ?_
 refine K0.make (boxS 86 (.agg #[.int .i64 0, .int .i64 0, .int .u8 0, .int .u8 0, .int .u8 0, .int .u8 0, .slice none 0 0, .int .i64 0, .int .i64 0, .int .i64 (-1)])) (ptr) (fun g u => K8 u g (Px 0 0 0 0 0 0 N9 0 0 (-1)) ∧ w.heap.size ≤ g ∧ g < u.heap.size) Zk (fun w1 hw h => make_box (v := .agg (Px 0 0 0 0 0 0 N9 0 0 (-1)).toArray) hw.size) (fun gt => ?_)
 refine ZR ?_
 refine K0.mut (L := [gt]) (Φ' := fun _ : Unit => fun u => K8 u gt (Px 4 4 255 255 255 255 N9 0 1 (-1))) (fun w1 hw h => all_1 (c := q.1.2) hM hw h.2.2.1 h.1.2.1 h.1.2.2 h.2.1) (fun u h b hb => by obtain rfl : b = gt := by { simpa using hb }; exact ⟨h.2.2.1, h.2.1.own⟩) (fun _ wa u e1 e2 h hG => hG) Zk Zk (fun _ => ?_)
 refine ZR ?_
 refine ZI false ?_
 refine ZA (Ln 3 ⟨gt, 9, none⟩) (.int .i64 (-1)) (fun w1 hw h => K9 Zk (by rw [h.cell]; rfl)) ?_
 refine ZI false ?_
 refine ZA (Ln 59 ⟨gt, 0, none⟩) (scV) (fun w1 hw h => Ly (vs := scC) Zk Zk (K8.fst (a := scC) (b := [.int .i64 0, .int .i64 1, .int .i64 (-1)]) h)) ?_
 refine ZC (fun w1 hw h => format_e) fun u => ?_
 refine ZI false ?_
 refine ZA (Ln 59 ⟨gt, 0, none⟩) (scV) (fun w1 hw h => Ly (vs := scC) Zk Zk (K8.fst (a := scC) (b := [.int .i64 0, .int .i64 1, .int .i64 (-1)]) h.1)) ?_
 exact ZW (.tuple #[scV, .int .i64 0, .int .i64 0])
theorem parse_2 (hM : ML w) : Calls Tryz.prog 14 #[K4 text2] w (K5 w (fun _ : Unit => .tuple #[scZ, .int .i64 2, .int .i64 3]) fun _ _ => True) := by
 refine K0.enter Tryz.func14 rfl ?_
 refine ZR ?_
 refine ZI false ?_
 refine ZC (fun w1 hw h => hsuf text2 Zd (by decide +kernel)) fun u => ?_
 refine ZI false ?_
 refine ZD 1 (fun w1 hw h => sl_f (l := text2) (ws := [Mn, Qt]) (n := 2) (N := w.heap.size) (hM.below hw) (by decide +kernel) Zd (by decide +kernel) Zd Zd hw.size) fun q => ?_
 refine K0.make (boxS 86 (.agg #[.int .i64 0, .int .i64 0, .int .u8 0, .int .u8 0, .int .u8 0, .int .u8 0, .slice none 0 0, .int .i64 0, .int .i64 0, .int .i64 (-1)])) (ptr) (fun g u => K8 u g (Px 0 0 0 0 0 0 N9 0 0 (-1)) ∧ w.heap.size ≤ g ∧ g < u.heap.size) Zk (fun w1 hw h => make_box (v := .agg (Px 0 0 0 0 0 0 N9 0 0 (-1)).toArray) hw.size) (fun gt => ?_)
 refine ZR ?_
 refine K0.mut (X := Value) (L := [gt]) (g := 34) (args := #[.pointer (some ⟨gt, 0, none⟩), .slice q.1.1 2 q.1.2]) (val := fun _ => .bool false) (G := fun l u => K8 u gt (Px 4 4 255 255 255 255 l 1 2 (-1))) (Φ' := fun l u => K8 u gt (Px 4 4 255 255 255 255 l 1 2 (-1))) (fun w1 hw h => all_2 (c := q.1.2) hM hw h.2.2.1 h.1.2.1 h.1.2.2 h.2.1) (fun u h b hb => by obtain rfl : b = gt := by { simpa using hb }; exact ⟨h.2.2.1, h.2.1.own⟩) (fun _ wa u e1 e2 h hG => hG) Zk Zk (fun l => ?_)
 refine ZR ?_
 refine ZI true ?_
 refine ZB 4 (Ln 3 ⟨gt, 8, none⟩) (.int .i64 2) (fun w1 hw h => K9 Zk (by rw [h.cell]; rfl)) ?_
 exact ZW (.tuple #[scZ, .int .i64 2, .int .i64 3])
end
section
variable {w : World}
def paintL : List UInt8 := [115, 111, 108, 105, 100, 32, 35, 102, 102, 56, 48, 48, 48, 56, 48]
def paintP : Pn := ⟨1, (255, 128, 0, 128), 0, 0, 0, 0, 0, [], 0, im0, 0, Nw⟩
theorem paintJ : M4 (Qe paintP) = paintL := by decide +kernel
theorem paintV : Lk paintP = true := by decide +kernel
theorem pn_agg (P : Pn) (q : PM) : O5 P q = .agg (pnC P q).toArray := by kernel_rfl
theorem pp_e (hM : ML w) : Calls Tryz.prog 9 #[K4 paintL] w (K5 w (fun q : PM => .tuple #[.agg (pnC paintP q).toArray, .int .i64 0]) fun _ _ => True) := by
 have hO : ppO paintL = some paintP := by have t := ppO_fmt paintV; rw [paintJ] at t; exact t
 have t := parsePaint_m (w := w) (N := 0) (l := paintL) (Nat.zero_le _) hM Zd
 rw [show ppV paintL = paintP by unfold ppV; rw [hO]; rfl, show ppE paintL = 0 by unfold ppE; rw [hO]; rfl] at t
 refine t.mono fun e w' h => ?_
 obtain ⟨x, h1, h2, h3⟩ := h
 exact ⟨x, h1.trans (congrArg (fun v => Ending.returned (.tuple #[v, .int .i64 0])) (pn_agg paintP x)), h2, fun _ _ _ => trivial⟩
theorem Lz (hM : ML w) : Calls Tryz.prog 6 #[] w (K5 w (fun _ : Unit => .bool true) fun _ _ => True) := by
 refine K0.enter Tryz.func6 rfl ?_
 refine ZR ?_
 refine ZC (fun w1 hw h => parse_1 (hM.below hw)) fun a => ?_
 refine ZC (fun w1 hw h => format_e) fun b => ?_
 refine ZC (fun w1 hw h => parse_2 (hM.below hw)) fun c => ?_
 refine ZD 20 (fun w1 hw h => pp_e (hM.below hw)) fun q => ?_
 refine K0.ask (eqP 23 (.tmp 51) (.tmp 52) (P8 (255, 255, 255, 255)) (P8 (255, 255, 255, 255))) (.bool true) Zk (fun w1 hw h => O9 Zs) ?_
 refine ZS 57 ?_
 refine ZA (eqP 23 (.tmp 88) (.tmp 89) (P8 (255, 128, 0, 128)) (P8 (255, 128, 0, 128))) (.bool true) (fun w1 hw h => O9 Zs) ?_
 exact ZW (.bool true)
end
section
open Go.RowKit
--ATNAMES
section
variable {w : World} {P : Pn} {q : PM} {K : Nat} {l : List UInt8} {t : TV}
theorem prd_of (hs : smallP P q = true) (h1 : Qg w q.sA P.stops.length 5 P3 P.stops) (h2 : Qg w q.xA P.im.px.length 4 Ns P.im.px) (i : InT q.t w) : ∃ T, PRd { P with T := T } q 12 w ∧ P.stops.length ≤ 40 ∧ P.im.px.length ≤ 1000 := by
 unfold smallP at hs
 simp only [Bool.and_eq_true, decide_eq_true_eq] at hs
 obtain ⟨T, hT⟩ := short_isA hs.1 i
 exact ⟨T, ⟨h1, h2, hT⟩, hs.2.1, hs.2.2⟩
theorem sameT_of {N : Nat} {q2 : PM} (h1 : PAt N P q w) (h2 : PRf false P q2 w) : SameT q.t q2.t P.T w := by
 rcases h1.tr with ⟨a, _, b⟩ | ⟨a, b⟩
 ·rcases h2.tr with ⟨c, _, d⟩ | ⟨c, d⟩
  ·exact .inl ⟨b, d⟩
  ·omega
 ·rcases h2.tr with ⟨c, _, d⟩ | ⟨c, d⟩
  ·omega
  ·exact .inr ⟨⟨b.a.1, b.b.1, b.c.1, b.d.1, b.e.1, b.f.1⟩, d.n⟩
theorem ppO_px {P : Pn} (h : ppO l = some P) : 8 * P.im.px.length ≤ l.length ∧ 2 * P.stops.length ≤ l.length + 1 := by
 unfold ppO at h
 split at h
 ·rename_i hB
  split at h
  ·rename_i Q hr
   split at h
   ·simp only [Option.some.injEq] at h
    subst h
    exact ⟨px_small hr (words_mem2 hB), by have := rdPn_stops hr; have := words_len2 (l := l); omega⟩
   ·cases h
  ·cases h
 ·cases h
theorem PRd.mono {K' : Nat} (h : PRd P q K w) (hK : K ≤ K') : PRd P q K' w := ⟨h.st, h.px, h.tr.mono hK⟩
theorem pp_none (hO : ppO l = none) (hM : ML w) (hl : l.length ≤ 10000) : Calls Tryz.prog 9 #[K4 l] w (K5 w (fun q : PM => .tuple #[O5 pn0 q, .int .i64 3]) fun q u => PAt 0 pn0 q u) := by
 have t := parsePaint_m (w := w) (N := 0) (l := l) (Nat.zero_le _) hM hl
 rw [show ppV l = pn0 by unfold ppV; rw [hO]; rfl, show ppE l = 3 by unfold ppE; rw [hO]; rfl] at t
 exact t
theorem pp_some {Q : Pn} (hO : ppO l = some Q) (hM : ML w) (hl : l.length ≤ 10000) : Calls Tryz.prog 9 #[K4 l] w (K5 w (fun q : PM => .tuple #[O5 Q q, .int .i64 0]) fun q u => PAt 0 Q q u) := by
 have t := parsePaint_m (w := w) (N := 0) (l := l) (Nat.zero_le _) hM hl
 rw [show ppV l = Q by unfold ppV; rw [hO]; rfl, show ppE l = 0 by unfold ppE; rw [hO]; rfl] at t
 exact t
theorem rpp_none (hO : ppO l = none) (hl : l.length ≤ 9000) : Calls Tryz.prog 10 #[K4 l] w (K5 w (fun q : PM => .tuple #[O5 pn0 q, .int .i64 3]) fun q u => PRf false pn0 q u) := by
 have t := rparsePaint_m (w := w) (l := l) hl
 rw [show ppV l = pn0 by unfold ppV; rw [hO]; rfl, show ppE l = 3 by unfold ppE; rw [hO]; rfl] at t
 exact t
theorem rpp_some {Q : Pn} (hO : ppO l = some Q) (hl : l.length ≤ 9000) : Calls Tryz.prog 10 #[K4 l] w (K5 w (fun q : PM => .tuple #[O5 Q q, .int .i64 0]) fun q u => PRf false Q q u) := by
 have t := rparsePaint_m (w := w) (l := l) hl
 rw [show ppV l = Q by unfold ppV; rw [hO]; rfl, show ppE l = 0 by unfold ppE; rw [hO]; rfl] at t
 exact t
theorem lawPaint (hM : ML w) (h1 : Qg w q.sA P.stops.length 5 P3 P.stops) (h2 : Qg w q.xA P.im.px.length 4 Ns P.im.px) (i : InT q.t w) : Calls Tryz.prog 3 #[O5 P q, K4 l] w (K5 w (fun _ : Unit => .bool true) fun _ _ => True) := by
 cases hS : smallP P q with
 | false =>
  refine K0.enter Tryz.func3 rfl ?_
  refine ZR ?_
  refine ZC (fun w1 hw h => P9 hS) fun u => ?_
  refine ZI true ?_
  refine ZC (fun w1 hw h => Lz (hM.below hw)) fun e => ?_
  exact ZW (.bool true)
 | true =>
 refine K0.enter Tryz.func3 rfl ?_
 refine ZR ?_
 by_cases hl : l.length ≤ 4000
 case neg =>
  refine ZC (fun w1 hw h => P9 hS) fun u => ?_
  refine ZJ (decide ((l.length : Int) > 4000)) true Zp ?_
  refine ZC (fun w1 hw h => Lz (hM.below hw)) fun e => ?_
  exact ZW (.bool true)
 obtain ⟨T, hP0, hs40, hp1000⟩ := prd_of hS h1 h2 i
 obtain ⟨R, hR, hv0⟩ : ∃ R : Pn, PRd R q 12 w ∧ O5 P q = O5 R q ∧ smallP R q = true ∧ R.stops.length ≤ 40 ∧ R.im.px.length ≤ 1000 := ⟨_, hP0, rfl, hS, hs40, hp1000⟩
 obtain ⟨hv0, hS2, hs4, hpx⟩ := hv0
 rw [hv0]
 clear hP0 hS hs40 hp1000 h1 h2 i hv0
 refine ZC (fun w1 hw h => P9 hS2) fun u => ?_
 refine ZJ (decide ((l.length : Int) > 4000)) false Zp ?_
 cases hV : Lk R with
 | false =>
  refine ZC (fun w1 hw h => formatPaint_n hV (hR.below hw) Zd Zo) fun a => ?_
  refine ZC (fun w1 hw h => rformatPaint_n hV (hR.below hw) Zd Zo Zo) fun b => ?_
  cases hO : ppO l with
  | none =>
   refine ZC (fun w1 hw h => pp_none hO (hM.below hw) Zo) fun q1 => ?_
   refine ZD 2 (fun w1 hw h => rpp_none hO Zo) fun q2 => ?_
   refine K0.run Zk (stop := 1000) 1 _ ?_
   refine ZS 2 ?_
   refine ZA (Ov .eql 9 (.tmp 42) (.tmp 43) (K4 []) (K4 [])) (.bool true) (fun w1 hw h => L3 Zs) ?_
   refine ZC (fun w1 hw h => samePaint_v (P := pn0) (K := 125) (h.1.2.rd Zd) h.2.rd (sameT_of h.1.2 h.2) Zd Zd) fun s => ?_
   refine ZC (fun w1 hw h => Lz (hM.below hw)) fun e => ?_
   exact ZW (.bool true)
  | some Q =>
   have hq := ppO_px hO
   refine ZC (fun w1 hw h => pp_some hO (hM.below hw) Zo) fun q1 => ?_
   refine ZD 2 (fun w1 hw h => rpp_some hO Zo) fun q2 => ?_
   refine K0.run Zk (stop := 1000) 1 _ ?_
   refine ZS 2 ?_
   refine ZA (Ov .eql 9 (.tmp 42) (.tmp 43) (K4 []) (K4 [])) (.bool true) (fun w1 hw h => L3 Zs) ?_
   refine ZC (fun w1 hw h => samePaint_v (P := Q) (K := 125) (h.1.2.rd Zd) h.2.rd (sameT_of h.1.2 h.2) Zd Zo) fun s => ?_
   refine ZC (fun w1 hw h => Lz (hM.below hw)) fun e => ?_
   exact ZW (.bool true)
 | true =>
  refine ZC (fun w1 hw h => O4 hV (hR.below hw) Zd Zo) fun a => ?_
  refine ZC (fun w1 hw h => rformatPaint_s hV (hR.below hw) Zd Zo Zo) fun b => ?_
  cases hO : ppO l with
  | none =>
   refine ZC (fun w1 hw h => pp_none hO (hM.below hw) Zo) fun q1 => ?_
   refine ZD 2 (fun w1 hw h => rpp_none hO Zo) fun q2 => ?_
   refine K0.run Zk (stop := 1000) 1 _ ?_
   refine ZS 2 ?_
   refine ZA (Ov .eql 9 (.tmp 42) (.tmp 43) (K4 (M4 (Qe R))) (K4 (M4 (Qe R)))) (.bool true) (fun w1 hw h => L3 Zs) ?_
   refine ZC (fun w1 hw h => samePaint_v (P := pn0) (K := 125) (h.1.2.rd Zd) h.2.rd (sameT_of h.1.2 h.2) Zd Zd) fun s => ?_
   refine ZC (fun w1 hw h => Lz (hM.below hw)) fun e => ?_
   exact ZW (.bool true)
  | some Q =>
   have hq := ppO_px hO
   refine ZC (fun w1 hw h => pp_some hO (hM.below hw) Zo) fun q1 => ?_
   refine ZD 2 (fun w1 hw h => rpp_some hO Zo) fun q2 => ?_
   refine K0.run Zk (stop := 1000) 1 _ ?_
   refine ZS 2 ?_
   refine ZA (Ov .eql 9 (.tmp 42) (.tmp 43) (K4 (M4 (Qe R))) (K4 (M4 (Qe R)))) (.bool true) (fun w1 hw h => L3 Zs) ?_
   refine ZC (fun w1 hw h => samePaint_v (P := Q) (K := 125) (h.1.2.rd Zd) h.2.rd (sameT_of h.1.2 h.2) Zd Zo) fun s => ?_
   refine ZC (fun w1 hw h => Lz (hM.below hw)) fun e => ?_
   exact ZW (.bool true)
theorem lawPaintRound (hM : ML w) (h1 : Qg w q.sA P.stops.length 5 P3 P.stops) (h2 : Qg w q.xA P.im.px.length 4 Ns P.im.px) (i : InT q.t w) : Calls Tryz.prog 4 #[O5 P q, K4 l] w (K5 w (fun _ : Unit => .bool true) fun _ _ => True) := by
 cases hS : smallP P q with
 | false =>
  refine K0.enter Tryz.func4 rfl ?_
  refine ZR ?_
  refine ZC (fun w1 hw h => P9 hS) fun u => ?_
  refine ZI true ?_
  refine ZC (fun w1 hw h => Lz (hM.below hw)) fun e => ?_
  exact ZW (.bool true)
 | true =>
 refine K0.enter Tryz.func4 rfl ?_
 refine ZR ?_
 by_cases hl : l.length ≤ 4000
 case neg =>
  refine ZC (fun w1 hw h => P9 hS) fun u => ?_
  refine ZJ (decide ((l.length : Int) > 4000)) true Zp ?_
  refine ZC (fun w1 hw h => Lz (hM.below hw)) fun e => ?_
  exact ZW (.bool true)
 obtain ⟨T, hP0, hs40, hp1000⟩ := prd_of hS h1 h2 i
 obtain ⟨R, hR, hv0⟩ : ∃ R : Pn, PRd R q 12 w ∧ O5 P q = O5 R q ∧ smallP R q = true ∧ R.stops.length ≤ 40 ∧ R.im.px.length ≤ 1000 := ⟨_, hP0, rfl, hS, hs40, hp1000⟩
 obtain ⟨hv0, hS2, hs4, hpx⟩ := hv0
 rw [hv0]
 clear hP0 hS hs40 hp1000 h1 h2 i hv0
 refine ZC (fun w1 hw h => P9 hS2) fun u => ?_
 refine ZJ (decide ((l.length : Int) > 4000)) false Zp ?_
 cases hV : Lk R with
 | false =>
  refine ZC (fun w1 hw h => formatPaint_n hV (hR.below hw) Zd Zo) fun a => ?_
  refine ZI false ?_
  cases hO : ppO l with
  | none =>
   refine ZC (fun w1 hw h => pp_none hO (hM.below hw) Zo) fun q9 => ?_
   refine ZI true ?_
   refine ZC (fun w1 hw h => Lz (hM.below hw)) fun e => ?_
   exact ZW (.bool true)
  | some Q =>
   have hq := ppO_px hO
   have hj := ppO_join hO
   refine ZC (fun w1 hw h => pp_some hO (hM.below hw) Zo) fun q9 => ?_
   refine ZI false ?_
   refine ZD 5 (fun w1 hw h => by have t := O4 hj.1 (h.2.rd (K := 125) (Nat.le_refl _)) Zd Zo; rw [hj.2] at t; exact t) fun t9 => ?_
   refine K0.run Zk (stop := 1000) 1 _ ?_
   refine ZS 5 ?_
   refine ZA (Ov .eql 9 (.tmp 91) (.tmp 92) (K4 l) (K4 l)) (.bool true) (fun w1 hw h => L3 Zs) ?_
   refine ZC (fun w1 hw h => Lz (hM.below hw)) fun e => ?_
   exact ZW (.bool true)
 | true =>
  have hO2 := ppO_fmt hV
  have hlen := join_pn_len hV hpx
  refine ZC (fun w1 hw h => O4 hV (hR.below hw) Zd Zo) fun a => ?_
  refine ZI true ?_
  refine ZC (fun w1 hw h => pp_some hO2 (hM.below hw) Zo) fun q1 => ?_
  refine ZC (fun w1 hw h => O4 hV (h.2.rd (K := 125) (Nat.le_refl _)) Zd Zo) fun t1 => ?_
  refine K0.two (i := 1) (j := 4) Zk ?_ ?_
  ·refine GoodAt.make (i := 1) (Li 48 1 #[(0, O5 R q)]) (Ki 1) (L8 38 (pnC R q).toArray) Zk (fun w1 hw h => Kb Zk) (fun g => ?_)
   refine ZR ?_
   refine K0.make (Li (48) 1 #[(0, O5 R q1)]) (Ki 1) (L8 38 (pnC R q1).toArray) Zk (fun w1 hw h => Kb Zk) (fun g2 => ?_)
   refine K0.run Zk (stop := 1000) 1 _ ?_
   refine ZS 9 ?_
   refine ZA (Ov .neq 9 (.tmp 56) (.tmp 57) (K4 (M4 (Qe R))) (K4 (M4 (Qe R)))) (.bool false) (fun w1 hw h => run_neS Zs) ?_
   refine ZC (fun w1 hw h => rnode_v (P := R) (q := q) (q2 := q1) (K := 125) (g := g) (g2 := g2) (hR.below hw |>.mono Zd) (h.1.1.1.2.rd (Nat.le_refl _)) h.1.2 h.2 Zd Zo) fun s => ?_
   refine ZI false ?_
   cases hO : ppO l with
   | none =>
    refine ZC (fun w1 hw h => pp_none hO (hM.below hw) Zo) fun q9 => ?_
    refine ZI true ?_
    refine ZC (fun w1 hw h => Lz (hM.below hw)) fun e => ?_
    exact ZW (.bool true)
   | some Q =>
    have hq := ppO_px hO
    have hj := ppO_join hO
    refine ZC (fun w1 hw h => pp_some hO (hM.below hw) Zo) fun q9 => ?_
    refine ZI false ?_
    refine ZD 5 (fun w1 hw h => by have t := O4 hj.1 (h.2.rd (K := 125) (Nat.le_refl _)) Zd Zo; rw [hj.2] at t; exact t) fun t9 => ?_
    refine K0.run Zk (stop := 1000) 1 _ ?_
    refine ZS 5 ?_
    refine ZA (Ov .eql 9 (.tmp 91) (.tmp 92) (K4 l) (K4 l)) (.bool true) (fun w1 hw h => L3 Zs) ?_
    refine ZC (fun w1 hw h => Lz (hM.below hw)) fun e => ?_
    exact ZW (.bool true)
  ·refine GoodAt.make (i := 4) (Li 48 1 #[(0, O5 R q1)]) (Ki 1) (L8 38 (pnC R q1).toArray) Zk (fun w1 hw h => Kb Zk) (fun g2 => ?_)
   refine ZR ?_
   refine K0.make (Li (48) 1 #[(0, O5 R q)]) (Ki 1) (L8 38 (pnC R q).toArray) Zk (fun w1 hw h => Kb Zk) (fun g => ?_)
   refine K0.run Zk (stop := 1000) 1 _ ?_
   refine ZS 9 ?_
   refine ZA (Ov .neq 9 (.tmp 56) (.tmp 57) (K4 (M4 (Qe R))) (K4 (M4 (Qe R)))) (.bool false) (fun w1 hw h => run_neS Zs) ?_
   refine ZC (fun w1 hw h => rnode_v (P := R) (q := q) (q2 := q1) (K := 125) (g := g) (g2 := g2) (hR.below hw |>.mono Zd) (h.1.1.1.2.rd (Nat.le_refl _)) h.2 h.1.2 Zd Zo) fun s => ?_
   refine ZI false ?_
   cases hO : ppO l with
   | none =>
    refine ZC (fun w1 hw h => pp_none hO (hM.below hw) Zo) fun q9 => ?_
    refine ZI true ?_
    refine ZC (fun w1 hw h => Lz (hM.below hw)) fun e => ?_
    exact ZW (.bool true)
   | some Q =>
    have hq := ppO_px hO
    have hj := ppO_join hO
    refine ZC (fun w1 hw h => pp_some hO (hM.below hw) Zo) fun q9 => ?_
    refine ZI false ?_
    refine ZD 5 (fun w1 hw h => by have t := O4 hj.1 (h.2.rd (K := 125) (Nat.le_refl _)) Zd Zo; rw [hj.2] at t; exact t) fun t9 => ?_
    refine K0.run Zk (stop := 1000) 1 _ ?_
    refine ZS 5 ?_
    refine ZA (Ov .eql 9 (.tmp 91) (.tmp 92) (K4 l) (K4 l)) (.bool true) (fun w1 hw h => L3 Zs) ?_
    refine ZC (fun w1 hw h => Lz (hM.below hw)) fun e => ?_
    exact ZW (.bool true)
theorem rowPaint {x : List Value} {s : ByteArray} (hM : ML w) (i : Rd w shPaint x) : Calls Tryz.prog 3 #[.agg x.toArray, .string s] w (Done w) := by
 obtain ⟨P, q, rfl, h1, h2, h3⟩ := rd_paint i
 have e : Value.agg (pnC P q).toArray = O5 P q := by kernel_rfl
 rw [e]
 exact (lawPaint (P := P) (q := q) (l := s.data.toList) hM h1 h2 h3).mono fun _ _ h => law_done h
theorem rowPaintRound {x : List Value} {s : ByteArray} (hM : ML w) (i : Rd w shPaint x) : Calls Tryz.prog 4 #[.agg x.toArray, .string s] w (Done w) := by
 obtain ⟨P, q, rfl, h1, h2, h3⟩ := rd_paint i
 have e : Value.agg (pnC P q).toArray = O5 P q := by kernel_rfl
 rw [e]
 exact (lawPaintRound (P := P) (q := q) (l := s.data.toList) hM h1 h2 h3).mono fun _ _ h => law_done h
end
end
end Go.Proofs.YtncodmhgfkailaaGreatDoor
