/-
 Scenes as text: the examples and the law.
-/
import Derived.Test.YtdeepdckmhpldaaGreatDoorPG
import Derived.Test.YtdeepdckmhpldaaGreatDoorYX
import Derived.Test.YtdeepdckmhpldaaGreatDoorYI
import Derived.Test.YtdeepdckmhpldaaGreatDoorFR
namespace Go.Proofs.YtdeepdckmhpldaaGreatDoor
set_option maxRecDepth 100000
set_option maxHeartbeats 8000000
set_option linter.unusedVariables false
set_option linter.unusedSimpArgs false
open Go.RowKit
theorem make_allP {P : Program} {w : World} {t : TypeId} {z : Value} {N : Nat} {L : List Nat} (hz : V8 P t = some z) (hN : N ≤ w.heap.size) (hL : ∀ b ∈ L, b < w.heap.size) : Le P w ptr (fun g u => Ka u g z.cells.toList ∧ N ≤ g ∧ g ∉ L) (allS t) := by
 obtain ⟨x, w', h1, h2, h3⟩ := Uw (N := w.heap.size) hz (Nat.le_refl _)
 exact ⟨x, w', h1, h2, fun w'' k1 k2 => by have h := h3 w'' k1 k2; exact ⟨h.1, Nat.le_trans hN h.2.1, fun hm => by have := hL _ hm; have := h.2.1; omega⟩⟩
theorem Ka.storeN {P : Program} {t : TypeId} {w : World} {g j : Nat} {cs : List Value} {v : Value} (h : Ka w g cs) (hn : O9 P t = some v.cells.toList.length) (hj : j + v.cells.toList.length ≤ cs.length) (h1 : ∀ u ∈ v.cells.toList, u.oneCell' = true) :
 ∃ w', (stS t ⟨g, j, none⟩ v).run P w = .ok .skip w' ∧ Chg [g] w w' ∧ ∀ w'', w'.heap.size ≤ w''.heap.size → (∀ b ∈ [g], w''.heap[b]? = w'.heap[b]?) → Ka w'' g (cs.take j ++ v.cells.toList ++ cs.drop (j + v.cells.toList.length)) := by
 obtain ⟨ty, h⟩ := h
 have hst := run_storeCells_at P g j ty v.cells.toList 0 cs.toArray w h (by simp at hj ⊢; omega) h1
 have hsz : v.cells.size = v.cells.toList.length := by simp
 have hnew : ((cs.toArray.toList.take (j + 0) ++ v.cells.toList ++ cs.toArray.toList.drop (j + 0 + v.cells.toList.length)).toArray) = (cs.take j ++ v.cells.toList ++ cs.drop (j + v.cells.toList.length)).toArray := rfl
 rw [hnew] at hst
 refine ⟨w.setRow g (cs.take j ++ v.cells.toList ++ cs.drop (j + v.cells.toList.length)).toArray, ?_, ⟨rfl, rfl, rfl, by rw [Pt]; exact Nat.le_refl _, fun k _ hk => Oy _ _ _ _ (by simpa using hk)⟩, fun w'' k1 k2 => ⟨ty, ?_⟩⟩
 ·simp only [stS, Instr.storeAt, Instr.sureAddr, storeVar, Sem.run_bind, Sem.run_pure, Result.andThen_ok, Ln hn]
  rw [if_neg Zs]
  simp only [hst, Sem.run_pure, Sem.run_bind, Result.andThen_ok]
 ·rw [k2 g Zs]
  simp only [World.setRow, Array.getElem?_modify, if_true, h, Option.map_some]
@[reducible] def N4 : Value := .slice none 0 0
@[reducible] def Qj (W H r g b a : Int) (l : Value) (wh ln far : Int) : List Value := [.int .i64 W, .int .i64 H, .int .u8 r, .int .u8 g, .int .u8 b, .int .u8 a, l, .int .i64 wh, .int .i64 ln, .int .i64 far]
structure TC (W w : World) (gt gr : Nat) (A : Option Addr) (n c : Nat) (ws : WS) : Prop where
 hW : Below W.heap.size W w
 lt : W.heap.size ≤ gt
 lr : W.heap.size ≤ gr
 ne : gt ≠ gr
 nA : ∀ b ∈ bl A, b ≠ gt ∧ b ≠ gr
 hn : n ≤ c
 hn2 : n ≤ 1000000
 len : ∀ y ∈ ws, y.length ≤ 10000
structure Tx (W w : World) (gt gr : Nat) (tc rc : List Value) (u : World) : Prop where
 sz : w.heap.size ≤ u.heap.size
 fr : ∀ b, W.heap.size ≤ b → b < w.heap.size → b ≠ gt → b ≠ gr → u.heap[b]? = w.heap[b]?
 bt : Ka u gt tc
 br : Ka u gr rc
section
variable {w W : World} {gt gr n c m : Nat} {A : Option Addr} {f : Bool} {s : List UInt8} {ws rest r : WS} {tc rc tc2 rc2 : List Value}
theorem Tx.mr {wa u : World} (T : TC W w gt gr A n c ws) (e1 : wa.heap.size = u.heap.size) (e2 : ∀ b, b ∉ [gr] → wa.heap[b]? = u.heap[b]?) (h : Tx W w gt gr tc rc wa) (hG : Ka u gr rc2) : Tx W w gt gr tc rc2 u :=
 ⟨by rw [← e1]; exact h.sz, fun b h1 h2 h3 h4 => (e2 b (by simpa using h4)).symm.trans (h.fr b h1 h2 h3 h4), h.bt.left e2 (by simpa using T.ne), hG⟩
theorem Tx.mt {wa u : World} (T : TC W w gt gr A n c ws) (e1 : wa.heap.size = u.heap.size) (e2 : ∀ b, b ∉ [gt] → wa.heap[b]? = u.heap[b]?) (h : Tx W w gt gr tc rc wa) (hG : Ka u gt tc2) : Tx W w gt gr tc2 rc u :=
 ⟨by rw [← e1]; exact h.sz, fun b h1 h2 h3 h4 => (e2 b (by simpa using h3)).symm.trans (h.fr b h1 h2 h3 h4), hG, h.br.left e2 (by simpa using Ne.symm T.ne)⟩
theorem Tx.ownr (T : TC W w gt gr A n c ws) : ∀ u, Tx W w gt gr tc rc u → ∀ b ∈ [gr], W.heap.size ≤ b ∧ ∃ xs ty own, u.heap[b]? = some (.cells xs ty own) := fun u h b hb => by
 obtain rfl : b = gr := by simpa using hb
 exact ⟨T.lr, h.br.own⟩
theorem Tx.ownt (T : TC W w gt gr A n c ws) : ∀ u, Tx W w gt gr tc rc u → ∀ b ∈ [gt], W.heap.size ≤ b ∧ ∃ xs ty own, u.heap[b]? = some (.cells xs ty own) := fun u h b hb => by
 obtain rfl : b = gt := by simpa using hb
 exact ⟨T.lt, h.bt.own⟩
theorem Tx.reS {u : World} (T : TC W w gt gr A n c ws) (hu : Below W.heap.size W u) (h : Kj u A n ws) : RE W u gr A n c ws :=
 ⟨hu, T.lr, h, fun ad _ e => (T.nA ad.block (by rw [e]; simp [bl])).2, T.hn, T.hn2, T.len⟩
theorem Tx.re {u : World} (T : TC W w gt gr A n c ws) (hs : Kj w A n ws) (hu : Below W.heap.size W u) (h : Tx W w gt gr tc rc u) : RE W u gr A n c ws :=
 Tx.reS T hu ⟨hs.1, fun k s hk => by
  obtain ⟨ad, h1, h2⟩ := hs.2 k s hk
  refine ⟨ad, h1, cell_to h2 ?_⟩
  have hb := T.nA ad.block (by rw [h1]; simp [bl])
  have hlt := cell_lt h2
  rw [Pc] at hlt
  rw [Pc]
  rcases Nat.lt_or_ge ad.block W.heap.size with h3 | h3
  ·rw [hu.block _ h3, T.hW.block _ h3]
  ·exact h.fr _ h3 hlt hb.1 hb.2⟩
theorem Tx.start (T : TC W w gt gr A n c ws) (ht : Ka w gt tc) (hr : Ka w gr rc) (u : World) (h : w.heap.size ≤ u.heap.size ∧ ∀ b, W.heap.size ≤ b → b < w.heap.size → u.heap[b]? = w.heap[b]?) : Tx W w gt gr tc rc u :=
 ⟨h.1, fun b h1 h2 _ _ => h.2 b h1 h2, ht.stay T.lt h.2, hr.stay T.lr h.2⟩
theorem Tx.post2 {val : Value} {w1 : World} (T : TC W w gt gr A n c ws) (hw : Below W.heap.size W w1) (h : Tx W w gt gr tc rc w1) : Nn w [gt, gr] (fun _ : Unit => val) (fun _ u => Ka u gt tc ∧ Ka u gr rc) (.returned val) w1 :=
 ⟨(), rfl, ⟨hw.os.trans T.hW.os.symm, hw.tape.trans T.hW.tape.symm, hw.output.trans T.hW.output.symm, h.sz, fun k hk hkl => by
  rcases Nat.lt_or_ge k W.heap.size with h4 | h4
  ·rw [hw.block k h4, T.hW.block k h4]
  ·exact h.fr k h4 hk (fun e => hkl (by simp [e])) fun e => hkl (by simp [e])⟩, fun w'' k1 k2 => ⟨h.bt.to (k2 gt (.inl Zs)), h.br.to (k2 gr (.inl Zs))⟩⟩
theorem Tx.post1 {val : Value} {w1 : World} (T : TC W w gt gr A n c ws) (hg : w.heap.size ≤ gr) (hw : Below W.heap.size W w1) (h : Tx W w gt gr tc rc w1) : Nn w [gt] (fun _ : Unit => val) (fun _ u => Ka u gt tc) (.returned val) w1 :=
 ⟨(), rfl, ⟨hw.os.trans T.hW.os.symm, hw.tape.trans T.hW.tape.symm, hw.output.trans T.hW.output.symm, h.sz, fun k hk hkl => by
  rcases Nat.lt_or_ge k W.heap.size with h4 | h4
  ·rw [hw.block k h4, T.hW.block k h4]
  ·exact h.fr k h4 hk (fun e => hkl (by simp [e])) Zo⟩, fun w'' k1 k2 => h.bt.to (k2 gt (.inl Zs))⟩
theorem pcheck_nil : Calls Tryz.prog 191 #[.slice none 0 0] w (K5 w (fun _ : Unit => .tuple #[.int .i64 0, .int .i64 0]) fun _ _ => True) := by
 refine K0.enter Tryz.func191 rfl ?_
 refine ZR ?_
 refine ZI false ?_
 refine K0.un Zk ?_
 refine ZR ?_
 refine ZI false ?_
 exact ZW (.tuple #[.int .i64 0, .int .i64 0])
theorem pparse_nil : Calls Tryz.prog 208 #[K3 []] w (K5 w (fun _ : Unit => .tuple #[.slice none 0 0, .int .i64 0, .int .i64 0]) fun _ _ => True) := by
 refine K0.enter Tryz.func208 rfl ?_
 refine ZR ?_
 refine K0.condr (decide (((0 : Nat) : Int) > 65536)) false Zk Zs ?_
 refine ZS 0 ?_
 refine K0.make (allS 64) (ptr) (fun g u => Ka u g [.slice none 0 0] ∧ w.heap.size ≤ g ∧ g ∉ []) Zk (fun w1 hw h => make_allP (z := .slice none 0 0) Zk hw.size Zs) (fun gW => ?_)
 refine ZS 1 ?_
 refine K0.pure_ (p := w.heap.size ≤ gW) (fun u hu h => h.2.2.1) Zk (fun hgW => ?_)
 refine ZA (S3 .neq 9 (.tmp 21) (.const (.string ⟨#[]⟩)) (K3 []) (K3 [])) (.bool false) (fun w1 hw h => run_neS Zs) ?_
 refine K0.cond false Zk ?_
 refine ZS 0 ?_
 refine K0.make (allS 3) (ptr) (fun g u => Ka u g [.int .i64 0] ∧ w.heap.size ≤ g ∧ g ∉ [gW]) Zk (fun w1 hw h => make_allP (z := .int .i64 0) Zk hw.size (by intro b hb; obtain rfl : b = gW := by { simpa using hb }; exact h.2.1.lt)) (fun gA => ?_)
 refine ZS 1 ?_
 refine K0.make (allS 29) (ptr) (fun g u => Ka u g [.int .i64 0] ∧ w.heap.size ≤ g ∧ g ∉ [gW, gA]) Zk (fun w1 hw h => make_allP (z := .int .i64 0) Zk hw.size (by intro b hb; rcases List.mem_cons.1 hb with rfl | hb; exact h.1.2.1.lt; obtain rfl : b = gA := by { simpa using hb }; exact h.2.1.lt)) (fun gE => ?_)
 refine ZS 2 ?_
 refine K0.pure_ (p := (w.heap.size ≤ gA ∧ gA ∉ [gW]) ∧ (w.heap.size ≤ gE ∧ gE ∉ [gW, gA])) (fun u hu h => ⟨h.1.2.2, h.2.2⟩) Zk (fun hp => ?_)
 obtain ⟨⟨la, ha⟩, le, he⟩ := hp
 simp only [List.mem_cons, List.not_mem_nil, or_false, not_or] at ha he
 refine K0.mutSt (L := [gA]) (G := fun u => Ka u gA [.int .i64 0]) (Φ' := fun u => Ka u gW [.slice none 0 0] ∧ Ka u gA [.int .i64 0] ∧ Ka u gE [.int .i64 0]) (stS 3 ⟨gA, 0, none⟩ (.int .i64 0)) (fun w1 hw h => h.1.2.1.store Zk rfl (by intro u hu; simp [Value.cells] at hu; subst hu; rfl)) (fun u h b hb => by obtain rfl : b = gA := by { simpa using hb }; exact ⟨la, h.1.2.1.own⟩) (fun wa u e1 e2 h hG => ⟨h.1.1.2.1.left e2 (by simp; exact fun e => ha e.symm), hG, h.2.1.left e2 (by simp; exact he.2)⟩) Zk Zk ?_
 refine ZR ?_
 refine K0.mutSt (L := [gE]) (G := fun u => Ka u gE [.int .i64 0]) (Φ' := fun u => Ka u gW [.slice none 0 0] ∧ Ka u gA [.int .i64 0] ∧ Ka u gE [.int .i64 0]) (stS 29 ⟨gE, 0, none⟩ (.int .i64 0)) (fun w1 hw h => h.2.2.store Zk rfl (by intro u hu; simp [Value.cells] at hu; subst hu; rfl)) (fun u h b hb => by obtain rfl : b = gE := by { simpa using hb }; exact ⟨le, h.2.2.own⟩) (fun wa u e1 e2 h hG => ⟨h.1.left e2 (by simp; exact fun e => he.1 e.symm), h.2.1.left e2 (by simp; exact fun e => he.2 e.symm), hG⟩) Zk Zk ?_
 refine ZR ?_
 refine K0.un Zk ?_
 refine ZR ?_
 refine ZA (L7 3 ⟨gA, 0, none⟩) (.int .i64 0) (fun w1 hw h => K9 Zk h.2.1.one) ?_
 refine ZA (L7 64 ⟨gW, 0, none⟩) (.slice none 0 0) (fun w1 hw h => K9 Zk h.1.one) ?_
 refine ZI false ?_
 refine ZC (fun w1 hw h => pcheck_nil) fun u => ?_
 refine ZI false ?_
 exact ZW (.tuple #[.slice none 0 0, .int .i64 0, .int .i64 0])
theorem path_e (hR : RE W w gr A n c ws) (hs : Suf ws n ([] :: r)) (hb : Ka w gr (Qz A n c (r.length + 1) f)) : Calls Tryz.prog 155 #[.pointer (some ⟨gr, 0, none⟩)] w (Nn w [gr] (fun _ : Unit => .slice none 0 0) fun _ u => Ka u gr (Qz A n c r.length f)) := by
 have lg := hR.lg
 refine K0.enterB Tryz.func155 rfl hR.hW lg hb ?_
 refine ZR ?_
 refine K0.mut (L := [gr]) (Φ' := fun _ u => But W w gr (Qz A n c r.length f) u) (fun w1 hw h => Te (hR.next hw h) hs h.2.2) (fun u h => Nb (cs' := []) lg u h) (fun _ wa u e1 e2 h hG => Nj wa u e1 e2 h hG) Zk Zk (fun _ => ?_)
 refine ZR ?_
 refine ZC (fun w1 hw h => pparse_nil) fun u => ?_
 refine ZI true ?_
 refine ZV (.slice none 0 0) (fun w1 hw h => Pz hR.hW hw (h w1 (Nat.le_refl _) fun _ _ _ => rfl).1)
theorem step_s {z : Int} (hW : Below W.heap.size W w) (lg : W.heap.size ≤ gt) (hb : Ka w gt tc) (hl : 7 < tc.length) : Calls Tryz.prog 97 #[.pointer (some ⟨gt, 0, none⟩), .int .i64 z, .bool true] w (Nn w [gt] (fun _ : Unit => .tuple #[]) fun _ u => Ka u gt (tc.set 7 (.int .i64 z))) := by
 refine K0.enterB Tryz.func97 rfl hW lg hb ?_
 refine ZR ?_
 refine ZI false ?_
 refine K0.mutSt (L := [gt]) (G := fun u => Ka u gt (tc.set 7 (.int .i64 z))) (Φ' := But W w gt (tc.set 7 (.int .i64 z))) (stS 3 ⟨gt, 7, none⟩ (.int .i64 z)) (fun w1 hw h => h.2.2.store1 (j := 7) Zk rfl hl rfl) (fun u h => Nb (cs' := []) lg u h) (fun wa u e1 e2 h hG => Nj wa u e1 e2 h hG) Zk Zk ?_
 refine ZR ?_
 refine ZV (.tuple #[]) (fun w1 hw h => Pz hW hw (h w1 (Nat.le_refl _) fun _ _ _ => rfl))
theorem Pm.mk0 {X : Type} {P : Program} {w : World} {val : X → Value} {G : X → World → Prop} {s : Sem Next} (h : Pm P w [] val G s) : Le P w val G s := by
 obtain ⟨x, w', h1, h2, h3⟩ := h
 exact ⟨x, w', h1, ⟨h2.os, h2.tape, h2.output, h2.size, fun k hk => h2.block k hk Zs⟩, fun w'' k1 k2 => h3 w'' k1 fun b hb => by
  rcases hb with hb | hb
  ·cases hb
  ·exact k2 b hb.1 hb.2⟩
def shapeN : List UInt8 := [115, 104, 97, 112, 101]
def sceneN : List UInt8 := [115, 99, 101, 110, 101]
@[reducible] def ws2 : WS := [shapeN, [49], [48], [110, 111, 110, 122, 101, 114, 111], []]
def nd2 : List Value := [.int .i64 1, .int .i64 2, .int .i64 0] ++ (tv0.cl ++ [.slice none 0 0, .int .i64 0, .int .u8 0, .int .i64 0, .bool false, .bool false, .slice none 0 0, .int .i64 1, .slice none 0 0, .int .i64 0, .int .i64 0, .int .i64 0, .int .i64 0, .slice none 0 0, .int .i64 0, .slice none 0 0, .int .i64 0, .int .i64 0, .slice none 0 0, .int .i64 0])
def ndZ : List Value := [.int .i64 0, .int .i64 0, .int .i64 0] ++ (tv0.cl ++ [.slice none 0 0, .int .i64 0, .int .u8 0, .int .i64 0, .bool false, .bool false, .slice none 0 0, .int .i64 0, .slice none 0 0, .int .i64 0, .int .i64 0, .int .i64 0, .int .i64 0, .slice none 0 0, .int .i64 0, .slice none 0 0, .int .i64 0, .int .i64 0, .slice none 0 0, .int .i64 0])
theorem app_nd {gb : Nat} {w : World} (hg : Kp 48 nd2.toArray gb w) :
 Pm Tryz.prog w [] (fun z : Option Addr × Nat => .slice z.1 (0 + 1) z.2) (fun z v => True) (Lh 24 24 (.slice none 0 0) (Kb 1 gb)) := by
 obtain ⟨x, w', h1, h2, h3⟩ := Ok (P := Tryz.prog) (s := 47) (z := .agg ndZ.toArray) (bytes := 656) (m := 1) (cc := 1) (t := 24) (elem := 48) Zk Zk rfl Zd (K7.nil_ (B := w.heap.size)) (Nat.le_refl _) (Ni (n := 1) hg rfl) (by intro v hv; revert v; decide) Zo Zd
 exact ⟨x, w', h1, h2, fun _ _ _ => trivial⟩
theorem begin_s {x1 x2 x3 x4 x5 x6 x7 : Int} (T : TC W w gt gr A 5 c ws2) (hs : Kj w A 5 ws2) (ht : Ka w gt (Qj x1 x2 x3 x4 x5 x6 N4 0 1 x7)) (hr : Ka w gr (Qz A 5 c 4 false)) :
 Calls Tryz.prog 100 #[.pointer (some ⟨gt, 0, none⟩), .pointer (some ⟨gr, 0, none⟩), K3 shapeN] w (Nn w [gt, gr] (fun _ : Value => .tuple #[]) fun l u => Ka u gt (Qj x1 x2 x3 x4 x5 x6 l 1 1 x7) ∧ Ka u gr (Qz A 5 c 0 false)) := by
 refine K0.enterW Tryz.func100 rfl T.hW (K0.impC (Tx.start T ht hr) ?_)
 refine ZR ?_
 refine ZA (L7 3 ⟨gt, 7, none⟩) (.int .i64 0) (fun w1 hw h => K9 Zk (by rw [h.bt.cell]; rfl)) ?_
 refine ZA (L7 3 ⟨gt, 8, none⟩) (.int .i64 1) (fun w1 hw h => K9 Zk (by rw [h.bt.cell]; rfl)) ?_
 refine K0.mut (L := [gt]) (Φ' := fun _ : Unit => Tx W w gt gr (Qj x1 x2 x3 x4 x5 x6 N4 1 1 x7) (Qz A 5 c 4 false)) (fun w1 hw h => step_s hw T.lt h.bt (by show 7 < 10; decide)) (Tx.ownt T) (fun _ wa u e1 e2 h hG => h.mt T e1 e2 hG) Zk Zk (fun _ => ?_)
 refine ZR ?_
 refine K0.mut (L := [gr]) (Φ' := fun _ : Unit => Tx W w gt gr (Qj x1 x2 x3 x4 x5 x6 N4 1 1 x7) (Qz A 5 c 3 false)) (fun w1 hw h => by have t := number_t (Tx.re T hs hw h) (show Suf ws2 5 (ws2.drop 1) from ⟨rfl, by decide⟩) h.br; rw [show rdN false (ws2.drop 1) = some (1, ws2.drop 2, false) from by decide +kernel] at t; exact t) (Tx.ownr T) (fun _ wa u e1 e2 h hG => h.mr T e1 e2 hG) Zk Zk (fun _ => ?_)
 refine ZR ?_
 refine K0.mut (L := [gr]) (Φ' := fun _ : Unit => Tx W w gt gr (Qj x1 x2 x3 x4 x5 x6 N4 1 1 x7) (Qz A 5 c 2 false)) (fun w1 hw h => by have t := number_t (Tx.re T hs hw h) (show Suf ws2 5 (ws2.drop 2) from ⟨rfl, by decide⟩) h.br; rw [show rdN false (ws2.drop 2) = some (0, ws2.drop 3, false) from by decide +kernel] at t; exact t) (Tx.ownr T) (fun _ wa u e1 e2 h hG => h.mr T e1 e2 hG) Zk Zk (fun _ => ?_)
 refine ZR ?_
 refine ZI false ?_
 refine ZI true ?_
 refine K0.mut (L := [gr]) (Φ' := fun _ : Unit => Tx W w gt gr (Qj x1 x2 x3 x4 x5 x6 N4 1 1 x7) (Qz A 5 c 1 false)) (fun w1 hw h => by have t := word_rule (Tx.re T hs hw h) (show Suf ws2 5 (ws2.drop 3) from ⟨rfl, by decide⟩) h.br; rw [show rdW Lq 1 false (ws2.drop 3) = some (1, ws2.drop 4, false) from by decide +kernel] at t; exact t) (Tx.ownr T) (fun _ wa u e1 e2 h hG => h.mr T e1 e2 hG) Zk Zk (fun _ => ?_)
 refine ZR ?_
 refine K0.mut (L := [gr]) (Φ' := fun _ : Unit => Tx W w gt gr (Qj x1 x2 x3 x4 x5 x6 N4 1 1 x7) (Qz A 5 c 0 false)) (fun w1 hw h => path_e (r := []) (Tx.re T hs hw h) (show Suf ws2 5 (ws2.drop 4) from ⟨rfl, by decide⟩) h.br) (Tx.ownr T) (fun _ wa u e1 e2 h hG => h.mr T e1 e2 hG) Zk Zk (fun _ => ?_)
 refine ZR ?_
 refine K0.askAt 5 (L7 24 ⟨gt, 6, none⟩) (N4) Zk (fun w1 hw h => K9 Zk (by rw [h.bt.cell]; rfl)) ?_
 refine ZS 7 ?_
 refine K0.make (Ks (24) 1 #[(0, .agg nd2.toArray)]) (Kb 1) (Kp 48 nd2.toArray) Zk (fun w1 hw h => K8 Zk) (fun gb => ?_)
 refine ZS 8 ?_
 refine K0.make (Lh 24 24 N4 (Kb 1 gb)) (fun y : Option Addr × Nat => .slice y.1 (0 + 1) y.2) (fun _ _ => True) Zk (fun w1 hw h => (app_nd h.2).mk0) (fun y => ?_)
 refine ZR ?_
 refine K0.mutStAny (L := [gt]) (G := fun u => Ka u gt (Qj x1 x2 x3 x4 x5 x6 (.slice y.1 (0 + 1) y.2) 1 1 x7)) (Φ' := Tx W w gt gr (Qj x1 x2 x3 x4 x5 x6 (.slice y.1 (0 + 1) y.2) 1 1 x7) (Qz A 5 c 0 false)) (stS 24 ⟨gt, 6, none⟩ (.slice y.1 (0 + 1) y.2)) (fun w1 hw h => h.1.1.bt.store1 (j := 6) Zk rfl (by show 6 < 10; decide) rfl) (fun u h => Tx.ownt T u h.1.1) (fun wa u e1 e2 h hG => h.1.1.mt T e1 e2 hG) Zk Zk ?_
 refine ZR ?_
 refine ZV (.tuple #[]) (fun w1 hw h => ?_)
 obtain ⟨x, h1, h2, h3⟩ := (h w1 (Nat.le_refl _) fun _ _ _ => rfl).post2 (val := .tuple #[]) T hw
 exact ⟨.slice y.1 (0 + 1) y.2, h1, h2, h3⟩
end
theorem K0.impM {P : Program} {Δ : List Deferred} {W : World} {Q : Exit → Act → World → Prop} {Φ Φ' : World → Prop} {c : O5} (h : ∀ w, Φ w → Φ' w) (hf : notAny c = true) (H : K0 P Δ W Q Φ' c) : K0 P Δ W Q Φ c := by
 obtain ⟨foc, k, σ⟩ := c
 replace H := H.get
 refine ⟨?_⟩
 unfold Sr at H ⊢
 cases foc with
 | code x => exact fun hwf β a w hr => H hwf β a w (hr.imp h)
 | ops o l => exact fun hwf β a w hr => H hwf β a w (hr.imp h)
 | any o f l => cases hf
 | out e => exact fun hwf β a w hr => H hwf β a w (hr.imp h)
section
variable {W w u wa : World} {g gt gr n c : Nat} {A : Option Addr} {f : Bool} {ws : WS} {tc rc tc2 rc2 : List Value}
theorem Sa (hb : Ka u g tc) (hc : ∀ v ∈ tc, ∀ s, v ≠ K3 s) (h : Kj u A n ws) (h0 : 0 < ws.length) : ∀ b ∈ bl A, b ≠ g := by
 rintro b hb2 rfl
 obtain ⟨s, hs⟩ : ∃ s, ws[0]? = some s := ⟨_, List.getElem?_eq_getElem h0⟩
 obtain ⟨ad, hA, hc2⟩ := h.2 0 s hs
 rw [hA] at hb2
 obtain rfl : b = ad.block := by simpa [bl] using hb2
 obtain ⟨ty, hb⟩ := hb
 unfold World.cell? at hc2
 rw [Pc, hb] at hc2
 simp only at hc2
 split at hc2
 ·cases hc2
 ·exact hc _ (List.mem_of_getElem? (by simpa using hc2)) s rfl
theorem Kj.left2 {L : List Nat} (e2 : ∀ b, b ∉ L → wa.heap[b]? = u.heap[b]?) (hA : ∀ b ∈ bl A, b ∉ L) (h : Kj wa A n ws) : Kj u A n ws :=
 ⟨h.1, fun k s hk => by
  obtain ⟨ad, h1, h2⟩ := h.2 k s hk
  exact ⟨ad, h1, cell_to h2 (by rw [Pc]; exact (e2 _ (hA _ (by rw [h1]; simp [bl]))).symm)⟩⟩
structure TS (W w : World) (gt gr : Nat) (A : Option Addr) (n : Nat) (ws : WS) (tc rc : List Value) (u : World) : Prop where
 t : Tx W w gt gr tc rc u
 s : Kj u A n ws
theorem TS.mr (T : TC W w gt gr A n c ws) (e1 : wa.heap.size = u.heap.size) (e2 : ∀ b, b ∉ [gr] → wa.heap[b]? = u.heap[b]?) (h : TS W w gt gr A n ws tc rc wa) (hG : Ka u gr rc2) : TS W w gt gr A n ws tc rc2 u :=
 ⟨h.t.mr T e1 e2 hG, h.s.left2 e2 fun b hb => by simpa using (T.nA b hb).2⟩
theorem TS.mt (T : TC W w gt gr A n c ws) (e1 : wa.heap.size = u.heap.size) (e2 : ∀ b, b ∉ [gt] → wa.heap[b]? = u.heap[b]?) (h : TS W w gt gr A n ws tc rc wa) (hG : Ka u gt tc2) : TS W w gt gr A n ws tc2 rc u :=
 ⟨h.t.mt T e1 e2 hG, h.s.left2 e2 fun b hb => by simpa using (T.nA b hb).1⟩
theorem TS.mb (T : TC W w gt gr A n c ws) (e1 : wa.heap.size = u.heap.size) (e2 : ∀ b, b ∉ [gt, gr] → wa.heap[b]? = u.heap[b]?) (h : TS W w gt gr A n ws tc rc wa) (hG : Ka u gt tc2 ∧ Ka u gr rc2) : TS W w gt gr A n ws tc2 rc2 u :=
 ⟨⟨by rw [← e1]; exact h.t.sz, fun b h1 h2 h3 h4 => (e2 b (by simp; exact ⟨h3, h4⟩)).symm.trans (h.t.fr b h1 h2 h3 h4), hG.1, hG.2⟩, h.s.left2 e2 fun b hb => by simpa using T.nA b hb⟩
theorem TS.ownr (T : TC W w gt gr A n c ws) : ∀ u, TS W w gt gr A n ws tc rc u → ∀ b ∈ [gr], W.heap.size ≤ b ∧ ∃ xs ty own, u.heap[b]? = some (.cells xs ty own) := fun u h => Tx.ownr T u h.t
theorem TS.ownt (T : TC W w gt gr A n c ws) : ∀ u, TS W w gt gr A n ws tc rc u → ∀ b ∈ [gt], W.heap.size ≤ b ∧ ∃ xs ty own, u.heap[b]? = some (.cells xs ty own) := fun u h => Tx.ownt T u h.t
theorem TS.ownb (T : TC W w gt gr A n c ws) : ∀ u, TS W w gt gr A n ws tc rc u → ∀ b ∈ [gt, gr], W.heap.size ≤ b ∧ ∃ xs ty own, u.heap[b]? = some (.cells xs ty own) := fun u h b hb => by
 rcases List.mem_cons.1 hb with rfl | hb
 ·exact Tx.ownt T u h.t _ Zs
 ·exact Tx.ownr T u h.t _ hb
theorem TC.at {w1 : World} (T : TC W w gt gr A n c ws) (hw : Below W.heap.size W w1) : TC W w1 gt gr A n c ws := ⟨hw, T.lt, T.lr, T.ne, T.nA, T.hn, T.hn2, T.len⟩
theorem TS.re (T : TC W w gt gr A n c ws) (hu : Below W.heap.size W u) (h : TS W w gt gr A n ws tc rc u) : RE W u gr A n c ws := Tx.reS T hu h.s
def Mg : List UInt8 := [115, 99, 101, 110, 101, 32, 52, 32, 52, 32, 35, 102, 102, 102, 102, 102, 102, 102, 102]
def R6 : List UInt8 := [115, 104, 97, 112, 101, 32, 49, 32, 48, 32, 110, 111, 110, 122, 101, 114, 111, 32, 42]
def whiteN : List UInt8 := [35, 102, 102, 102, 102, 102, 102, 102, 102]
@[reducible] def ws1 : WS := [sceneN, [52], [52], whiteN]
theorem wl1 : allW (Qb Mg) = true ∧ Of (Qb Mg) = ws1 := by decide +kernel
theorem wl2 : allW (Qb R6) = true ∧ Of (Qb R6) = ws2 := by decide +kernel
theorem sf1 (hM : ML w) : Calls Tryz.prog 58 #[K3 Mg] w (K5 w (fun y : Option Addr × Nat => .tuple #[.slice y.1 4 y.2, .int .i64 0, .int .i64 0]) fun y u => Kj u y.1 4 ws1 ∧ 4 ≤ y.2) := by
 have t := sf_c (w := w) (l := Mg) hM wl1.1 Zd; rw [wl1.2] at t; exact t
theorem sf2 (hM : ML w) : Calls Tryz.prog 58 #[K3 R6] w (K5 w (fun y : Option Addr × Nat => .tuple #[.slice y.1 5 y.2, .int .i64 0, .int .i64 0]) fun y u => Kj u y.1 5 ws2 ∧ 5 ≤ y.2) := by
 have t := sf_c (w := w) (l := R6) hM wl2.1 Zd; rw [wl2.2] at t; exact t
theorem rbx_full : Qz A n c n f = [.slice A n c, .bool f] := by
 unfold Qz rsl
 rw [Nat.sub_self, stepA_zero, Nat.sub_zero]
theorem txC_ns {W H r g b a wh ln far : Int} {l : Value} (hl : ∀ s, l ≠ K3 s) : ∀ v ∈ Qj W H r g b a l wh ln far, ∀ s, v ≠ K3 s := by
 intro v hv s e
 subst e
 unfold Qj at hv
 simp only [List.mem_cons, List.not_mem_nil, or_false] at hv
 rcases hv with h | h | h | h | h | h | h | h | h | h <;> first | exact absurd h.symm (hl s) | cases h
theorem rbx2_ns : ∀ v ∈ [Value.slice A n c, .bool f], ∀ s, v ≠ K3 s := by
 intro v hv s e
 subst e
 simp only [List.mem_cons, List.not_mem_nil, or_false] at hv
 rcases hv with h | h <;> cases h
theorem TS.post {val : Value} {w1 : World} (T : TC W w gt gr A n c ws) (hg : w.heap.size ≤ gr) (hw : Below W.heap.size W w1) (h : TS W w gt gr A n ws tc rc w1) : Nn w [gt] (fun _ : Unit => val) (fun _ u => Ka u gt tc) (.returned val) w1 := h.t.post1 T hg hw
theorem nil_ns : ∀ s, N4 ≠ K3 s := fun s h => by cases h
theorem take_1 (hM : ML W) (hW : Below W.heap.size W w) (lt : W.heap.size ≤ gt) (ht : Ka w gt (Qj 0 0 0 0 0 0 N4 0 0 (-1))) : Calls Tryz.prog 57 #[.pointer (some ⟨gt, 0, none⟩), K3 Mg] w (Nn w [gt] (fun _ : Unit => .tuple #[]) fun _ u => Ka u gt (Qj 4 4 255 255 255 255 N4 0 0 (-1))) := by
 have hgt := ht.lt
 refine K0.enterW Tryz.func57 rfl hW ?_
 refine ZR ?_
 refine ZC (fun w1 hw h => sf1 (hM.below hw)) fun y => ?_
 refine K0.cond false Zk ?_
 refine ZS 2 ?_
 refine K0.make (boxS 112 (.agg #[.slice y.1 4 y.2, .bool false])) (ptr) (fun g u => Ka u g [.slice y.1 4 y.2, .bool false] ∧ w.heap.size ≤ g ∧ g < u.heap.size) Zk (fun w1 hw h => Uv (v := .agg #[.slice y.1 4 y.2, .bool false]) h.1.1) (fun gr => ?_)
 refine ZS 2 ?_
 refine K0.pure_ (p := (w.heap.size ≤ gr ∧ 4 ≤ y.2) ∧ ∀ b ∈ bl y.1, b ≠ gt ∧ b ≠ gr) (fun u hu h => ⟨⟨h.2.2.1, h.1.2.2⟩, fun b hb => ⟨Sa (ht.stay lt h.1.1.2) (txC_ns nil_ns) h.1.2.1 Zd b hb, Sa h.2.1 rbx2_ns h.1.2.1 Zd b hb⟩⟩) Zk (fun hp => ?_)
 obtain ⟨⟨hgr, hyc⟩, hnA⟩ := hp
 have T : TC W w gt gr y.1 4 y.2 ws1 := ⟨hW, lt, Nat.le_trans hW.size hgr, by omega, hnA, hyc, by decide, by decide⟩
 refine K0.impM (Φ' := TS W w gt gr y.1 4 ws1 (Qj 0 0 0 0 0 0 N4 0 0 (-1)) (Qz y.1 4 y.2 4 false)) (fun u h => ⟨⟨h.1.1.1, fun b h1 h2 _ _ => h.1.1.2 b h1 h2, ht.stay lt h.1.1.2, by rw [rbx_full]; exact h.2.1⟩, h.1.2.1⟩) Zk ?_
 refine ZR ?_
 refine K0.mut (L := [gr]) (Φ' := fun _ : Unit => TS W w gt gr y.1 4 ws1 (Qj 0 0 0 0 0 0 N4 0 0 (-1)) (Qz y.1 4 y.2 3 false)) (fun w1 hw h => Te (TS.re T hw h) (show Suf ws1 4 (sceneN :: [[52], [52], whiteN]) from ⟨rfl, by decide⟩) h.t.br) (TS.ownr T) (fun _ wa u e1 e2 h hG => h.mr T e1 e2 hG) Zk Zk (fun _ => ?_)
 refine ZR ?_
 refine ZI true ?_
 refine ZA (L7 3 ⟨gt, 8, none⟩) (.int .i64 0) (fun w1 hw h => K9 Zk (by rw [h.t.bt.cell]; rfl)) ?_
 refine K0.mut (L := [gt]) (Φ' := fun _ : Unit => TS W w gt gr y.1 4 ws1 (Qj 0 0 0 0 0 0 N4 0 0 (-1)) (Qz y.1 4 y.2 3 false)) (fun w1 hw h => step_s hw T.lt h.t.bt (by show 7 < 10; decide)) (TS.ownt T) (fun _ wa u e1 e2 h hG => h.mt T e1 e2 hG) Zk Zk (fun _ => ?_)
 refine ZR ?_
 refine K0.mut (L := [gr]) (Φ' := fun _ : Unit => TS W w gt gr y.1 4 ws1 (Qj 0 0 0 0 0 0 N4 0 0 (-1)) (Qz y.1 4 y.2 2 false)) (fun w1 hw h => by have t := number_t (TS.re T hw h) (show Suf ws1 4 (ws1.drop 1) from ⟨rfl, by decide⟩) h.t.br; rw [show rdN false (ws1.drop 1) = some (4, ws1.drop 2, false) from by decide +kernel] at t; exact t) (TS.ownr T) (fun _ wa u e1 e2 h hG => h.mr T e1 e2 hG) Zk Zk (fun _ => ?_)
 refine ZR ?_
 refine K0.mutSt (L := [gt]) (G := fun u => Ka u gt (Qj 4 0 0 0 0 0 N4 0 0 (-1))) (Φ' := TS W w gt gr y.1 4 ws1 (Qj 4 0 0 0 0 0 N4 0 0 (-1)) (Qz y.1 4 y.2 2 false)) (stS 3 ⟨gt, 0, none⟩ (.int .i64 4)) (fun w1 hw h => h.t.bt.store1 (j := 0) Zk rfl (by show 0 < 10; decide) rfl) (TS.ownt T) (fun wa u e1 e2 h hG => h.mt T e1 e2 hG) Zk Zk ?_
 refine ZR ?_
 refine K0.mut (L := [gr]) (Φ' := fun _ : Unit => TS W w gt gr y.1 4 ws1 (Qj 4 0 0 0 0 0 N4 0 0 (-1)) (Qz y.1 4 y.2 1 false)) (fun w1 hw h => by have t := number_t (TS.re T hw h) (show Suf ws1 4 (ws1.drop 2) from ⟨rfl, by decide⟩) h.t.br; rw [show rdN false (ws1.drop 2) = some (4, ws1.drop 3, false) from by decide +kernel] at t; exact t) (TS.ownr T) (fun _ wa u e1 e2 h hG => h.mr T e1 e2 hG) Zk Zk (fun _ => ?_)
 refine ZR ?_
 refine K0.mutSt (L := [gt]) (G := fun u => Ka u gt (Qj 4 4 0 0 0 0 N4 0 0 (-1))) (Φ' := TS W w gt gr y.1 4 ws1 (Qj 4 4 0 0 0 0 N4 0 0 (-1)) (Qz y.1 4 y.2 1 false)) (stS 3 ⟨gt, 1, none⟩ (.int .i64 4)) (fun w1 hw h => h.t.bt.store1 (j := 1) Zk rfl (by show 1 < 10; decide) rfl) (TS.ownt T) (fun wa u e1 e2 h hG => h.mt T e1 e2 hG) Zk Zk ?_
 refine ZR ?_
 refine K0.mut (L := [gr]) (Φ' := fun _ : Unit => TS W w gt gr y.1 4 ws1 (Qj 4 4 0 0 0 0 N4 0 0 (-1)) (Qz y.1 4 y.2 0 false)) (fun w1 hw h => by have t := colour_t (TS.re T hw h) (show Suf ws1 4 (ws1.drop 3) from ⟨rfl, by decide⟩) h.t.br; rw [show rdC false (ws1.drop 3) = some ((255, 255, 255, 255), ws1.drop 4, false) from by decide +kernel] at t; exact t) (TS.ownr T) (fun _ wa u e1 e2 h hG => h.mr T e1 e2 hG) Zk Zk (fun _ => ?_)
 refine ZR ?_
 refine K0.mutSt (L := [gt]) (G := fun u => Ka u gt (Qj 4 4 255 255 255 255 N4 0 0 (-1))) (Φ' := TS W w gt gr y.1 4 ws1 (Qj 4 4 255 255 255 255 N4 0 0 (-1)) (Qz y.1 4 y.2 0 false)) (stS 23 ⟨gt, 2, none⟩ (S5 (255, 255, 255, 255))) (fun w1 hw h => h.t.bt.storeN (j := 2) Zk Zd Zd) (TS.ownt T) (fun wa u e1 e2 h hG => h.mt T e1 e2 hG) Zk Zk ?_
 refine ZR ?_
 refine K0.mut (L := [gr]) (Φ' := fun _ : Unit => TS W w gt gr y.1 4 ws1 (Qj 4 4 255 255 255 255 N4 0 0 (-1)) (Qz y.1 4 y.2 0 false)) (fun w1 hw h => end_s hw T.lr h.t.br) (TS.ownr T) (fun _ wa u e1 e2 h hG => h.mr T e1 e2 hG) Zk Zk (fun _ => ?_)
 refine ZR ?_
 refine ZA (L7 4 ⟨gr, 1, none⟩) (.bool false) (fun w1 hw h => K9 Zk (by rw [h.t.br.cell]; rfl)) ?_
 refine ZI false ?_
 refine ZV (.tuple #[]) (fun w1 hw h => (h w1 (Nat.le_refl _) fun _ _ _ => rfl).post T hgr hw)
theorem take_2 (hM : ML W) (hW : Below W.heap.size W w) (lt : W.heap.size ≤ gt) (ht : Ka w gt (Qj 4 4 255 255 255 255 N4 0 1 (-1))) : Calls Tryz.prog 57 #[.pointer (some ⟨gt, 0, none⟩), K3 R6] w (Nn w [gt] (fun _ : Value => .tuple #[]) fun l u => Ka u gt (Qj 4 4 255 255 255 255 l 1 1 (-1))) := by
 have hgt := ht.lt
 refine K0.enterW Tryz.func57 rfl hW ?_
 refine ZR ?_
 refine ZC (fun w1 hw h => sf2 (hM.below hw)) fun y => ?_
 refine K0.cond false Zk ?_
 refine ZS 2 ?_
 refine K0.make (boxS 112 (.agg #[.slice y.1 5 y.2, .bool false])) (ptr) (fun g u => Ka u g [.slice y.1 5 y.2, .bool false] ∧ w.heap.size ≤ g ∧ g < u.heap.size) Zk (fun w1 hw h => Uv (v := .agg #[.slice y.1 5 y.2, .bool false]) h.1.1) (fun gr => ?_)
 refine ZS 2 ?_
 refine K0.pure_ (p := (w.heap.size ≤ gr ∧ 5 ≤ y.2) ∧ ∀ b ∈ bl y.1, b ≠ gt ∧ b ≠ gr) (fun u hu h => ⟨⟨h.2.2.1, h.1.2.2⟩, fun b hb => ⟨Sa (ht.stay lt h.1.1.2) (txC_ns nil_ns) h.1.2.1 Zd b hb, Sa h.2.1 rbx2_ns h.1.2.1 Zd b hb⟩⟩) Zk (fun hp => ?_)
 obtain ⟨⟨hgr, hyc⟩, hnA⟩ := hp
 have T : TC W w gt gr y.1 5 y.2 ws2 := ⟨hW, lt, Nat.le_trans hW.size hgr, by omega, hnA, hyc, by decide, by decide⟩
 refine K0.impM (Φ' := TS W w gt gr y.1 5 ws2 (Qj 4 4 255 255 255 255 N4 0 1 (-1)) (Qz y.1 5 y.2 5 false)) (fun u h => ⟨⟨h.1.1.1, fun b h1 h2 _ _ => h.1.1.2 b h1 h2, ht.stay lt h.1.1.2, by rw [rbx_full]; exact h.2.1⟩, h.1.2.1⟩) Zk ?_
 refine ZR ?_
 refine K0.mut (L := [gr]) (Φ' := fun _ : Unit => TS W w gt gr y.1 5 ws2 (Qj 4 4 255 255 255 255 N4 0 1 (-1)) (Qz y.1 5 y.2 4 false)) (fun w1 hw h => Te (TS.re T hw h) (show Suf ws2 5 (shapeN :: [[49], [48], [110, 111, 110, 122, 101, 114, 111], []]) from ⟨rfl, by decide⟩) h.t.br) (TS.ownr T) (fun _ wa u e1 e2 h hG => h.mr T e1 e2 hG) Zk Zk (fun _ => ?_)
 refine ZR ?_
 refine ZI false ?_
 refine ZI false ?_
 refine ZI true ?_
 refine ZI true ?_
 refine K0.mut (X := Value) (L := [gt, gr]) (g := 100) (args := #[.pointer (some ⟨gt, 0, none⟩), .pointer (some ⟨gr, 0, none⟩), K3 shapeN]) (val := fun _ => .tuple #[]) (G := fun l u => Ka u gt (Qj 4 4 255 255 255 255 l 1 1 (-1)) ∧ Ka u gr (Qz y.1 5 y.2 0 false)) (Φ' := fun l => TS W w gt gr y.1 5 ws2 (Qj 4 4 255 255 255 255 l 1 1 (-1)) (Qz y.1 5 y.2 0 false)) (fun w1 hw h => begin_s (T.at hw) h.s h.t.bt h.t.br) (TS.ownb T) (fun _ wa u e1 e2 h hG => h.mb T e1 e2 hG) Zk Zk (fun l => ?_)
 refine ZR ?_
 refine K0.mut (L := [gr]) (Φ' := fun _ : Unit => TS W w gt gr y.1 5 ws2 (Qj 4 4 255 255 255 255 l 1 1 (-1)) (Qz y.1 5 y.2 0 false)) (fun w1 hw h => end_s hw T.lr h.t.br) (TS.ownr T) (fun _ wa u e1 e2 h hG => h.mr T e1 e2 hG) Zk Zk (fun _ => ?_)
 refine ZR ?_
 refine ZA (L7 4 ⟨gr, 1, none⟩) (.bool false) (fun w1 hw h => K9 Zk (by rw [h.t.br.cell]; rfl)) ?_
 refine ZI false ?_
 refine ZV (.tuple #[]) (fun w1 hw h => ?_)
 obtain ⟨x, h1, h2, h3⟩ := (h w1 (Nat.le_refl _) fun _ _ _ => rfl).post (val := .tuple #[]) T hgr hw
 exact ⟨l, h1, h2, h3⟩
end
def cell1 (fn : Func) (σ : AS) : Option (Nat × TypeId) :=
 match fn.results.toList with
 | [.cell t ty] => match σ.tmps.getD t (.v undef) with
  | .v (.pointer (some ⟨g, 0, none⟩)) => some (g, ty)
  | _ => none
 | _ => none
theorem cell1_ok {P : Program} {Δ : List Deferred} {W : World} {Φ : World → Prop} {fn : Func} {σ : AS} {β : Nat → Nat} {a : Act} {w w' : World} {g : Nat} {ty : TypeId} {v : Value} (hc : cell1 fn σ = some (g, ty)) (hr : Q1 Δ W β σ Φ a w)
 (h1 : (loadVar ty ⟨g, 0, none⟩).run P w' = .ok v w') : (results fn a.tmps).run P w' = .ok v w' := by
 unfold cell1 at hc
 split at hc
 ·rename_i t ty' hres
  split at hc
  ·rename_i gg e1
   simp only [Option.some.injEq, Prod.mk.injEq] at hc
   obtain ⟨rfl, rfl⟩ := hc
   have hg1 : a.tmps.getD t undef = .pointer (some ⟨gg, 0, none⟩) := by
    have := hr.eval (.tmp t)
    simp only [Act.eval, AS.eval, e1, AV.conc] at this
    exact this
   rw [Tr, Sem.run_bind, Array.mapM_eq_mapM_toList, Sem.run_map, hres, List.mapM_cons, Sem.run_bind]
   simp only [Xp, hg1, asAddr, Sem.run_bind, Sem.run_pure, Result.andThen_ok, h1, List.mapM_nil, List.mapM_cons]
   rfl
  ·cases hc
 ·cases hc
section
variable {P : Program} {W : World} {Φ : World → Prop} {c : O5} {fn : Func} {R : Ending → World → Prop} {fv : Fn} {cap dargs : Array Value} {f : FuncId} {args : Array Value}
theorem K0.panD1 {ch : List PanicEntry} (g : Nat) (ty : TypeId) (hfo : c.foc = .out (.panic ch)) (hc : cell1 fn c.st = some (g, ty)) (hi : ∀ w, (invoke (.fn fv cap) dargs).run P w = .ok (.enter f args) w)
 (h : ∀ w, Below W.heap.size W w → Φ w → CallsD P f args (.panicking ch) w fun e u w' => settle u = .returning ∧ ∃ x v, e = .returned x ∧ (loadVar ty ⟨g, 0, none⟩).run P w' = .ok v w' ∧ R (.returned v) w') :
 K0 P [⟨.fn fv cap, dargs⟩] W (bodyPostD P fn R) Φ c := by
 obtain ⟨foc, k, σ⟩ := c
 refine ⟨?_⟩
 simp only at hfo
 subst hfo
 intro hwf β a w hr
 refine Xs k ?_
 show Leaves P fn a.tmps R a.defers (.panicking ch) w
 rw [hr.defers]
 refine leaves_cons Zs (hi w) ((h w hr.bel hr.phi).mono fun e u' w' he => ?_)
 obtain ⟨hu, x, v, rfl, k1, hR⟩ := he
 show Leaves P fn a.tmps R [] (settle u') w'
 rw [hu]
 exact ⟨_, cell1_ok hc hr k1, hR⟩
end
section
variable {W w : World} {gt go c : Nat} {A : Option Addr} {b : Bool}
theorem all1_r (hW : Below W.heap.size W w) : CallsD Tryz.prog 56 #[.pointer (some ⟨go, 0, none⟩)] .returning w (fun e u' w' => u' = .returning ∧ (e = .returned (.tuple #[]) ∧ Below W.heap.size W w' ∧ Stay W w w')) := by
 refine K0.enterRec (rv := .nilIface) Tryz.func56 rfl (fun ρ w => rfl) rfl rfl rfl rfl rfl (by show 4 < 1 + (15 - 1); decide) (fun c₀ cs hu => ?_) hW ?_
 ·simp [recoverD, hu]
 refine ZR ?_
 refine ZI true ?_
 refine ZV (.tuple #[]) (fun w1 hw h => ⟨rfl, hw, h w1 (Nat.le_refl _) fun _ _ _ => rfl⟩)
theorem all1_p (hW : Below W.heap.size W w) (ho : Ka w go [.bool b]) (lo : W.heap.size ≤ go) : CallsD Tryz.prog 56 #[.pointer (some ⟨go, 0, none⟩)] (.panicking pch) w (fun e u' w' => u' = .panicking [{ v := O6, recovered := true }] ∧ (e = .returned (.tuple #[]) ∧ Below W.heap.size W w' ∧ But W w go [.bool false] w')) := by
 refine K0.enterRec (rv := O6) Tryz.func56 rfl (fun ρ w => rfl) rfl rfl rfl rfl rfl (by show 4 < 1 + (15 - 1); decide) (fun c₀ cs hu => ?_) hW ?_
 ·simp [recoverD, hu, pch]
 refine ZR ?_
 refine ZI false ?_
 refine ZR ?_
 refine ZI false ?_
 refine K0.mutSt (L := [go]) (G := fun u => Ka u go [.bool false]) (Φ' := But W w go [.bool false]) (stS 4 ⟨go, 0, none⟩ (.bool false)) (fun w1 hw h => (ho.stay lo h.2).store Zk rfl (by intro u hu; simp [Value.cells] at hu; subst hu; rfl)) (fun u h b hb => ?_) (fun wa u e1 e2 h hG => ⟨by rw [← e1]; exact h.1, fun b h1 h2 h3 => (e2 b (by simpa using h3)).symm.trans (h.2 b h1 h2), hG⟩) Zk Zk ?_
 ·obtain rfl : b = go := by simpa using hb
  exact ⟨lo, (ho.stay lo h.2).own⟩
 refine ZR ?_
 refine ZV (.tuple #[]) (fun w1 hw h => ⟨rfl, hw, h w1 (Nat.le_refl _) fun _ _ _ => rfl⟩)
theorem Kj.stay {u : World} {B n : Nat} {ws : WS} (h : Kj w A n ws) (hA : ∀ b ∈ bl A, B ≤ b) (hs : ∀ b, B ≤ b → b < w.heap.size → u.heap[b]? = w.heap[b]?) : Kj u A n ws :=
 ⟨h.1, fun k s hk => by
  obtain ⟨ad, h1, h2⟩ := h.2 k s hk
  have hlt := cell_lt h2
  rw [Pc] at hlt
  exact ⟨ad, h1, cell_to h2 (by rw [Pc]; exact hs _ (hA _ (by rw [h1]; simp [bl])) hlt)⟩⟩
theorem one_ns {b : Bool} : ∀ v ∈ [Value.bool b], ∀ s, v ≠ K3 s := by
 intro v hv s e
 subst e
 simp only [List.mem_cons, List.not_mem_nil, or_false] at hv
 cases hv
theorem bool_st {w1 : World} {g : Nat} {v b : Bool} (h : Ka w1 g [.bool b]) : ∃ w', (stS 4 ⟨g, 0, none⟩ (.bool v)).run Tryz.prog w1 = .ok .skip w' ∧ Chg [g] w1 w' ∧ ∀ w'', w'.heap.size ≤ w''.heap.size → (∀ b ∈ [g], w''.heap[b]? = w'.heap[b]?) → Ka w'' g [.bool v] := h.store Zk rfl (by intro u hu; simp [Value.cells] at hu; subst hu; rfl)
theorem all_1 (hM : ML W) (hW : Below W.heap.size W w) (lt : W.heap.size ≤ gt) (hs : Kj w A 1 [Mg]) (hA : ∀ b ∈ bl A, W.heap.size ≤ b) (ht : Ka w gt (Qj 0 0 0 0 0 0 N4 0 0 (-1))) : Calls Tryz.prog 25 #[.pointer (some ⟨gt, 0, none⟩), .slice A 1 c] w (Nn w [gt] (fun _ : Unit => .bool true) fun _ u => Ka u gt (Qj 4 4 255 255 255 255 N4 0 1 (-1))) := by
 have hgt := ht.lt
 refine K0.enterD Tryz.func25 rfl hW ?_
 refine ZS 0 ?_
 refine K0.make (allS 4) (ptr) (fun g u => Ka u g [.bool false] ∧ w.heap.size ≤ g ∧ g < u.heap.size) Zk (fun w1 hw h => Uw (z := .bool false) Zk h.1) (fun go => ?_)
 refine ZR ?_
 refine K0.pure_ (p := w.heap.size ≤ go ∧ ∀ b ∈ bl A, b ≠ gt ∧ b ≠ go) (fun u hu h => ⟨h.2.2.1, fun b hb => ⟨Sa ht (txC_ns nil_ns) hs Zd b hb, Sa h.2.1 one_ns (hs.stay hA h.1.2) Zd b hb⟩⟩) Zk (fun hp => ?_)
 obtain ⟨hgo, hnA⟩ := hp
 have T : TC W w gt go A 1 1 [Mg] := ⟨hW, lt, Nat.le_trans hW.size hgo, by omega, hnA, Nat.le_refl _, by decide, by decide⟩
 obtain ⟨ad, hAd, _⟩ := hs.2 0 _ rfl
 refine K0.impM (Φ' := TS W w gt go A 1 [Mg] (Qj 0 0 0 0 0 0 N4 0 0 (-1)) [.bool false]) (fun u h => ⟨⟨h.1.1, fun b h1 h2 _ _ => h.1.2 b h1 h2, ht.stay lt h.1.2, h.2.1⟩, hs.stay hA h.1.2⟩) Zk ?_
 refine K0.mutSt (L := [go]) (G := fun u => Ka u go [.bool true]) (Φ' := TS W w gt go A 1 [Mg] (Qj 0 0 0 0 0 0 N4 0 0 (-1)) [.bool true]) (stS 4 ⟨go, 0, none⟩ (.bool true)) (fun w1 hw h => bool_st h.t.br) (TS.ownr T) (fun wa u e1 e2 h hG => h.mr T e1 e2 hG) Zk Zk ?_
 refine ZR ?_
 refine K0.defer_ ⟨.fn (.func 56) #[.pointer (some ⟨go, 0, none⟩)], #[]⟩ Zk Zk ?_
 refine ZR ?_
 refine K0.un Zk ?_
 refine ZR ?_
 refine ZI true ?_
 refine ZA (Ke 64 (.slice A 1 c) 0) (.pointer (some (ad.add 0))) (fun w1 hw h => by rw [hAd]; exact Kr (k := 0) (elem := 9) Zk Zk Zd) ?_
 refine ZA (L7 9 (ad.add 0)) (K3 Mg) (fun w1 hw h => K9 Zk (by obtain ⟨ad2, q1, q2⟩ := h.s.2 0 Mg rfl; obtain rfl := Option.some.inj (hAd.symm.trans q1); exact q2)) ?_
 refine K0.mutSt (L := [gt]) (G := fun u => Ka u gt (Qj 0 0 0 0 0 0 N4 0 0 (-1))) (Φ' := TS W w gt go A 1 [Mg] (Qj 0 0 0 0 0 0 N4 0 0 (-1)) [.bool true]) (stS 3 ⟨gt, 8, none⟩ (.int .i64 0)) (fun w1 hw h => h.t.bt.store1 (j := 8) Zk rfl (by show 8 < 10; decide) rfl) (TS.ownt T) (fun wa u e1 e2 h hG => h.mt T e1 e2 hG) Zk Zk ?_
 refine ZR ?_
 refine K0.mut (L := [gt]) (Φ' := fun _ : Unit => TS W w gt go A 1 [Mg] (Qj 4 4 255 255 255 255 N4 0 0 (-1)) [.bool true]) (fun w1 hw h => take_1 hM hw lt h.t.bt) (TS.ownt T) (fun _ wa u e1 e2 h hG => h.mt T e1 e2 hG) Zk Zk (fun _ => ?_)
 refine ZR ?_
 refine ZI false ?_
 refine K0.mutSt (L := [gt]) (G := fun u => Ka u gt (Qj 4 4 255 255 255 255 N4 0 1 (-1))) (Φ' := TS W w gt go A 1 [Mg] (Qj 4 4 255 255 255 255 N4 0 1 (-1)) [.bool true]) (stS 3 ⟨gt, 8, none⟩ (.int .i64 1)) (fun w1 hw h => h.t.bt.store1 (j := 8) Zk rfl (by show 8 < 10; decide) rfl) (TS.ownt T) (fun wa u e1 e2 h hG => h.mt T e1 e2 hG) Zk Zk ?_
 refine ZR ?_
 refine ZA (L7 3 ⟨gt, 7, none⟩) (.int .i64 0) (fun w1 hw h => K9 Zk (by rw [h.t.bt.cell]; rfl)) ?_
 refine ZI false ?_
 refine ZA (L7 4 ⟨go, 0, none⟩) (.bool true) (fun w1 hw h => K9 Zk h.t.br.one) ?_
 refine K0.mutSt (L := [go]) (G := fun u => Ka u go [.bool true]) (Φ' := TS W w gt go A 1 [Mg] (Qj 4 4 255 255 255 255 N4 0 1 (-1)) [.bool true]) (stS 4 ⟨go, 0, none⟩ (.bool true)) (fun w1 hw h => bool_st h.t.br) (TS.ownr T) (fun wa u e1 e2 h hG => h.mr T e1 e2 hG) Zk Zk ?_
 refine ZR ?_
 refine K0.retD1 (f := 56) (args := #[.pointer (some ⟨go, 0, none⟩)]) go 4 Zk (fun w1 => rfl) (fun w1 hw h => ?_)
 refine (all1_r hw).mono fun e u' w' he => ?_
 obtain ⟨rfl, rfl, hb, hst⟩ := he
 refine ⟨rfl, _, _, rfl, load_box1 Zk (h.t.br.stay T.lr hst.2), ?_⟩
 exact Tx.post1 T hgo hb ⟨Nat.le_trans h.t.sz hst.1, fun b h1 h2 h3 h4 => (hst.2 b h1 (Nat.lt_of_lt_of_le h2 h.t.sz)).trans (h.t.fr b h1 h2 h3 h4), h.t.bt.stay T.lt hst.2, h.t.br.stay T.lr hst.2⟩
theorem all_2 (hM : ML W) (hW : Below W.heap.size W w) (lt : W.heap.size ≤ gt) (hs : Kj w A 2 [Mg, R6]) (hA : ∀ b ∈ bl A, W.heap.size ≤ b) (ht : Ka w gt (Qj 0 0 0 0 0 0 N4 0 0 (-1))) : Calls Tryz.prog 25 #[.pointer (some ⟨gt, 0, none⟩), .slice A 2 c] w (Nn w [gt] (fun _ : Value => .bool false) fun l u => Ka u gt (Qj 4 4 255 255 255 255 l 1 2 (-1))) := by
 have hgt := ht.lt
 refine K0.enterD Tryz.func25 rfl hW ?_
 refine ZS 0 ?_
 refine K0.make (allS 4) (ptr) (fun g u => Ka u g [.bool false] ∧ w.heap.size ≤ g ∧ g < u.heap.size) Zk (fun w1 hw h => Uw (z := .bool false) Zk h.1) (fun go => ?_)
 refine ZR ?_
 refine K0.pure_ (p := w.heap.size ≤ go ∧ ∀ b ∈ bl A, b ≠ gt ∧ b ≠ go) (fun u hu h => ⟨h.2.2.1, fun b hb => ⟨Sa ht (txC_ns nil_ns) hs Zd b hb, Sa h.2.1 one_ns (hs.stay hA h.1.2) Zd b hb⟩⟩) Zk (fun hp => ?_)
 obtain ⟨hgo, hnA⟩ := hp
 have T : TC W w gt go A 2 2 [Mg, R6] := ⟨hW, lt, Nat.le_trans hW.size hgo, by omega, hnA, Nat.le_refl _, by decide, by decide⟩
 obtain ⟨ad, hAd, _⟩ := hs.2 0 _ rfl
 refine K0.impM (Φ' := TS W w gt go A 2 [Mg, R6] (Qj 0 0 0 0 0 0 N4 0 0 (-1)) [.bool false]) (fun u h => ⟨⟨h.1.1, fun b h1 h2 _ _ => h.1.2 b h1 h2, ht.stay lt h.1.2, h.2.1⟩, hs.stay hA h.1.2⟩) Zk ?_
 refine K0.mutSt (L := [go]) (G := fun u => Ka u go [.bool true]) (Φ' := TS W w gt go A 2 [Mg, R6] (Qj 0 0 0 0 0 0 N4 0 0 (-1)) [.bool true]) (stS 4 ⟨go, 0, none⟩ (.bool true)) (fun w1 hw h => bool_st h.t.br) (TS.ownr T) (fun wa u e1 e2 h hG => h.mr T e1 e2 hG) Zk Zk ?_
 refine ZR ?_
 refine K0.defer_ ⟨.fn (.func 56) #[.pointer (some ⟨go, 0, none⟩)], #[]⟩ Zk Zk ?_
 refine ZR ?_
 refine K0.un Zk ?_
 refine ZR ?_
 refine ZI true ?_
 refine ZA (Ke 64 (.slice A 2 c) 0) (.pointer (some (ad.add 0))) (fun w1 hw h => by rw [hAd]; exact Kr (k := 0) (elem := 9) Zk Zk Zd) ?_
 refine ZA (L7 9 (ad.add 0)) (K3 Mg) (fun w1 hw h => K9 Zk (by obtain ⟨ad2, q1, q2⟩ := h.s.2 0 Mg rfl; obtain rfl := Option.some.inj (hAd.symm.trans q1); exact q2)) ?_
 refine K0.mutSt (L := [gt]) (G := fun u => Ka u gt (Qj 0 0 0 0 0 0 N4 0 0 (-1))) (Φ' := TS W w gt go A 2 [Mg, R6] (Qj 0 0 0 0 0 0 N4 0 0 (-1)) [.bool true]) (stS 3 ⟨gt, 8, none⟩ (.int .i64 0)) (fun w1 hw h => h.t.bt.store1 (j := 8) Zk rfl (by show 8 < 10; decide) rfl) (TS.ownt T) (fun wa u e1 e2 h hG => h.mt T e1 e2 hG) Zk Zk ?_
 refine ZR ?_
 refine K0.mut (L := [gt]) (Φ' := fun _ : Unit => TS W w gt go A 2 [Mg, R6] (Qj 4 4 255 255 255 255 N4 0 0 (-1)) [.bool true]) (fun w1 hw h => take_1 hM hw lt h.t.bt) (TS.ownt T) (fun _ wa u e1 e2 h hG => h.mt T e1 e2 hG) Zk Zk (fun _ => ?_)
 refine ZR ?_
 refine ZI true ?_
 refine ZA (Ke 64 (.slice A 2 c) 1) (.pointer (some (ad.add 1))) (fun w1 hw h => by rw [hAd]; exact Kr (k := 1) (elem := 9) Zk Zk Zd) ?_
 refine ZA (L7 9 (ad.add 1)) (K3 R6) (fun w1 hw h => K9 Zk (by obtain ⟨ad2, q1, q2⟩ := h.s.2 1 R6 rfl; obtain rfl := Option.some.inj (hAd.symm.trans q1); exact q2)) ?_
 refine K0.mutSt (L := [gt]) (G := fun u => Ka u gt (Qj 4 4 255 255 255 255 N4 0 1 (-1))) (Φ' := TS W w gt go A 2 [Mg, R6] (Qj 4 4 255 255 255 255 N4 0 1 (-1)) [.bool true]) (stS 3 ⟨gt, 8, none⟩ (.int .i64 1)) (fun w1 hw h => h.t.bt.store1 (j := 8) Zk rfl (by show 8 < 10; decide) rfl) (TS.ownt T) (fun wa u e1 e2 h hG => h.mt T e1 e2 hG) Zk Zk ?_
 refine ZR ?_
 refine K0.mut (X := Value) (L := [gt]) (g := 57) (args := #[.pointer (some ⟨gt, 0, none⟩), K3 R6]) (val := fun _ => .tuple #[]) (G := fun l u => Ka u gt (Qj 4 4 255 255 255 255 l 1 1 (-1))) (Φ' := fun l => TS W w gt go A 2 [Mg, R6] (Qj 4 4 255 255 255 255 l 1 1 (-1)) [.bool true]) (fun w1 hw h => take_2 hM hw lt h.t.bt) (TS.ownt T) (fun _ wa u e1 e2 h hG => h.mt T e1 e2 hG) Zk Zk (fun l => ?_)
 refine ZR ?_
 refine ZI false ?_
 refine K0.mutSt (L := [gt]) (G := fun u => Ka u gt (Qj 4 4 255 255 255 255 l 1 2 (-1))) (Φ' := TS W w gt go A 2 [Mg, R6] (Qj 4 4 255 255 255 255 l 1 2 (-1)) [.bool true]) (stS 3 ⟨gt, 8, none⟩ (.int .i64 2)) (fun w1 hw h => h.t.bt.store1 (j := 8) Zk rfl (by show 8 < 10; decide) rfl) (TS.ownt T) (fun wa u e1 e2 h hG => h.mt T e1 e2 hG) Zk Zk ?_
 refine ZR ?_
 refine ZA (L7 3 ⟨gt, 7, none⟩) (.int .i64 1) (fun w1 hw h => K9 Zk (by rw [h.t.bt.cell]; rfl)) ?_
 refine ZI true ?_
 refine K0.throw (Instr.panic O6 >>= fun v => pure (.value v)) O6 Zk (fun w1 hw h => by simp [Instr.panic, O6, Go.goPanic]) Zk ?_
 refine K0.panD1 (f := 56) (args := #[.pointer (some ⟨go, 0, none⟩)]) go 4 rfl Zk (fun w1 => rfl) (fun w1 hw h => ?_)
 refine (all1_p hw h.t.br T.lr).mono fun e u' w' he => ?_
 obtain ⟨rfl, rfl, hb, hst⟩ := he
 have hbt : Ka w' gt (Qj 4 4 255 255 255 255 l 1 2 (-1)) := h.t.bt.to (hst.2.1 gt T.lt h.t.bt.lt T.ne)
 refine ⟨rfl, _, _, rfl, load_box1 Zk hst.2.2, ?_⟩
 obtain ⟨x, h1, h2, h3⟩ := Tx.post1 (val := .bool false) T hgo hb ⟨Nat.le_trans h.t.sz hst.1, fun b h1 h2 h3 h4 => (hst.2.1 b h1 (Nat.lt_of_lt_of_le h2 h.t.sz) h4).trans (h.t.fr b h1 h2 h3 h4), hbt, hst.2.2⟩
 exact ⟨l, h1, h2, h3⟩
end
def mapS (t : TypeId) : Sem Next := Instr.makeMap t none >>= fun v => pure (.value v)
theorem make_map {P : Program} {w : World} {t : TypeId} : Le P w (fun g : Nat => .map (some g)) (fun _ _ => True) (mapS t) :=
 ⟨w.heap.size, w.alloc (.map #[] 0), by simp only [mapS, Instr.makeMap, Sem.run_bind, run_newObj_alloc, Result.andThen_ok, Sem.run_pure], Rw _ _, fun _ _ _ => trivial⟩
def text1 : List UInt8 := Mg ++ [10]
def text2 : List UInt8 := Mg ++ [10] ++ R6 ++ [10]
@[reducible] def scC : List Value := [.int .i64 4, .int .i64 4, .int .u8 255, .int .u8 255, .int .u8 255, .int .u8 255, .slice none 0 0]
@[reducible] def scV : Value := .agg #[.int .i64 4, .int .i64 4, .int .u8 255, .int .u8 255, .int .u8 255, .int .u8 255, .slice none 0 0]
@[reducible] def scZ : Value := .agg #[.int .i64 0, .int .i64 0, .int .u8 0, .int .u8 0, .int .u8 0, .int .u8 0, .slice none 0 0]
section
variable {w : World} {N : Nat}
theorem check_e : Calls Tryz.prog 28 #[scV] w (K5 w (fun _ : Unit => .tuple #[.int .i64 0, .int .i64 0]) fun _ _ => True) := by
 refine K0.enter Tryz.func28 rfl ?_
 refine ZR ?_
 refine ZI false ?_
 refine ZI false ?_
 refine K0.make (mapS 114) (fun g : Nat => .map (some g)) (fun _ _ => True) Zk (fun w1 hw h => make_map) (fun m => ?_)
 refine ZR ?_
 refine K0.un Zk ?_
 refine ZR ?_
 refine ZI false ?_
 exact ZW (.tuple #[.int .i64 0, .int .i64 0])
theorem svalid_e : Calls Tryz.prog 12 #[scV] w (K5 w (fun _ : Unit => .bool true) fun _ _ => True) := by
 refine K0.enter Tryz.func12 rfl ?_
 refine ZR ?_
 refine ZC (fun w1 hw h => check_e) fun u => ?_
 exact ZW (.bool true)
theorem joinF1 : Lc ws1 = Mg := by decide +kernel
theorem joinN1 : Lw [Mg] = text1 := by decide +kernel
theorem fmt4 : K6 4 = [52] := by decide +kernel
theorem colW1 : Na (255, 255, 255, 255) = whiteN := by decide +kernel
theorem fi4 : Calls Tryz.prog 14 #[.int .i64 4] w (K5 w (fun _ : Unit => K3 [52]) fun _ _ => True) := by
 have t := Kk (w := w) (n := 4) Zd Zd; rw [fmt4] at t; exact t
theorem fc1 : Calls Tryz.prog 15 #[.agg #[.int .u8 255, .int .u8 255, .int .u8 255, .int .u8 255]] w (K5 w (fun _ : Unit => K3 whiteN) fun _ _ => True) := by
 have t := Y1 (w := w) (k := (255, 255, 255, 255)); rw [colW1] at t; exact t
theorem jf1 {A : Option Addr} {c : Nat} (hs : Kj w A 4 ws1) : Calls Tryz.prog 13 #[.slice A 4 c] w (K5 w (fun _ : Unit => K3 Mg) fun _ _ => True) := by
 have t := Sv (c := c) hs Zd Zd; rw [joinF1] at t; exact t
theorem jn1 {A : Option Addr} {c : Nat} (hs : Kj w A 1 [Mg]) : Calls Tryz.prog 17 #[.slice A 1 c] w (K5 w (fun _ : Unit => K3 text1) fun _ _ => True) := by
 have t := joinLines_m (c := c) hs Zd Zd; rw [joinN1] at t; exact t
theorem format_e : Calls Tryz.prog 6 #[scV] w (K5 w (fun _ : Unit => .tuple #[K3 text1, .int .i64 0]) fun _ _ => True) := by
 refine K0.enter Tryz.func6 rfl ?_
 refine ZR ?_
 refine ZC (fun w1 hw h => svalid_e) fun u => ?_
 refine ZI false ?_
 refine ZC (fun w1 hw h => fi4) fun a => ?_
 refine ZC (fun w1 hw h => fi4) fun b => ?_
 refine ZD 9 (fun w1 hw h => fc1) fun d => ?_
 refine K0.make (Ks (64) 4 #[(0, .string ⟨#[115, 99, 101, 110, 101]⟩), (1, K3 [52]), (2, K3 [52]), (3, K3 whiteN)]) (Kb 4) (Kp 9 #[.string ⟨#[115, 99, 101, 110, 101]⟩, K3 [52], K3 [52], K3 whiteN]) Zk (fun w1 hw h => K8 Zk) (fun g => ?_)
 refine ZS 10 ?_
 refine ZD 11 (fun w1 hw h => jf1 (c := 4) (L3 (L := ws1) h.2 rfl)) fun j => ?_
 refine K0.make (Ks (64) 1 #[(0, K3 Mg)]) (Kb 1) (Kp 9 #[K3 Mg]) Zk (fun w1 hw h => K8 Zk) (fun g2 => ?_)
 refine ZR ?_
 refine K0.un Zk ?_
 refine ZR ?_
 refine ZI false ?_
 refine ZC (fun w1 hw h => jn1 (c := 1) (L3 (L := [Mg]) h.2 rfl)) fun t => ?_
 refine ZI false ?_
 exact ZW (.tuple #[K3 text1, .int .i64 0])
theorem hsuf (l : List UInt8) (hl : l.length ≤ 100000000) (h : Lib.hasSuffix l [10] = true) : Calls Tryz.prog 23 #[K3 l, .string ⟨#[10]⟩] w (K5 w (fun _ : Unit => .bool true) fun _ _ => True) :=
 (Tryz.strings_HasSuffix ⟨l.toArray⟩ ⟨#[10]⟩ w (show l.length ≤ _ by omega)).mono fun e w' k => ⟨(), by rw [k.1]; show Ending.returned (.bool (Lib.hasSuffix l [10])) = _; rw [h], by rw [k.2]; exact Below.refl _ _, fun _ _ _ => trivial⟩
theorem Kj.blk {u : World} {A : Option Addr} {n : Nat} {ws : WS} (h : Kj u A n ws) (h0 : 0 < ws.length) : ∀ b ∈ bl A, ∃ cs ty own, u.heap[b]? = some (.cells cs ty own) := fun b hb => by
 obtain ⟨ad, h1, h2⟩ := h.2 0 _ (List.getElem?_eq_getElem h0)
 rw [h1] at hb
 obtain rfl : b = ad.block := by simpa [bl] using hb
 unfold World.cell? at h2
 rw [Pc] at h2
 split at h2
 ·exact ⟨_, _, _, by assumption⟩
 ·cases h2
theorem sl_f {l : List UInt8} {ws : WS} {n : Nat} (hM : ML w) (hB : okN l = true) (hl : l.length ≤ 10000000) (he : linesN l = ws) (hn : ws.length = n) (h0 : 0 < ws.length) (hN : N ≤ w.heap.size) : Calls Tryz.prog 24 #[K3 l] w (K5 w (fun q : (Option Addr × Nat) × Nat => .tuple #[.slice q.1.1 n q.1.2, .int .i64 0]) fun q u => Kj u q.1.1 n ws ∧ ∀ b ∈ bl q.1.1, N ≤ b) := by
 subst hn; subst he
 refine (sl_s hM hB hl).mono fun e w' h => ?_
 obtain ⟨x, h1, h2, h3⟩ := h.fresh (fun y => bl y.1) (fun y u k b hb => k.blk h0 b hb)
 exact ⟨x, h1, h2, fun w'' k1 k2 => ⟨(h3 w'' k1 k2).1, fun b hb => Nat.le_trans hN ((h3 w'' k1 k2).2.1 b hb).1⟩⟩
theorem parse_1 (hM : ML w) : Calls Tryz.prog 10 #[K3 text1] w (K5 w (fun _ : Unit => .tuple #[scV, .int .i64 0, .int .i64 0]) fun _ _ => True) := by
 refine K0.enter Tryz.func10 rfl ?_
 refine ZR ?_
 refine ZI false ?_
 refine ZC (fun w1 hw h => hsuf text1 Zd (by decide +kernel)) fun u => ?_
 refine ZI false ?_
 refine ZD 1 (fun w1 hw h => sl_f (l := text1) (ws := [Mg]) (n := 1) (N := w.heap.size) (hM.below hw) (by decide +kernel) Zd (by decide +kernel) Zd Zd hw.size) fun q => ?_
 refine K0.make (boxS 74 (.agg #[.int .i64 0, .int .i64 0, .int .u8 0, .int .u8 0, .int .u8 0, .int .u8 0, .slice none 0 0, .int .i64 0, .int .i64 0, .int .i64 (-1)])) (ptr) (fun g u => Ka u g (Qj 0 0 0 0 0 0 N4 0 0 (-1)) ∧ w.heap.size ≤ g ∧ g < u.heap.size) Zk (fun w1 hw h => Uv (v := .agg (Qj 0 0 0 0 0 0 N4 0 0 (-1)).toArray) hw.size) (fun gt => ?_)
 refine ZR ?_
 refine K0.mut (L := [gt]) (Φ' := fun _ : Unit => fun u => Ka u gt (Qj 4 4 255 255 255 255 N4 0 1 (-1))) (fun w1 hw h => all_1 (c := q.1.2) hM hw h.2.2.1 h.1.2.1 h.1.2.2 h.2.1) (fun u h b hb => by obtain rfl : b = gt := by { simpa using hb }; exact ⟨h.2.2.1, h.2.1.own⟩) (fun _ wa u e1 e2 h hG => hG) Zk Zk (fun _ => ?_)
 refine ZR ?_
 refine ZI false ?_
 refine ZA (L7 3 ⟨gt, 9, none⟩) (.int .i64 (-1)) (fun w1 hw h => K9 Zk (by rw [h.cell]; rfl)) ?_
 refine ZI false ?_
 refine ZA (L7 26 ⟨gt, 0, none⟩) (scV) (fun w1 hw h => M6 (vs := scC) Zk Zk (Ka.fst (a := scC) (b := [.int .i64 0, .int .i64 1, .int .i64 (-1)]) h)) ?_
 refine ZC (fun w1 hw h => format_e) fun u => ?_
 refine ZI false ?_
 refine ZA (L7 26 ⟨gt, 0, none⟩) (scV) (fun w1 hw h => M6 (vs := scC) Zk Zk (Ka.fst (a := scC) (b := [.int .i64 0, .int .i64 1, .int .i64 (-1)]) h.1)) ?_
 exact ZW (.tuple #[scV, .int .i64 0, .int .i64 0])
theorem parse_2 (hM : ML w) : Calls Tryz.prog 10 #[K3 text2] w (K5 w (fun _ : Unit => .tuple #[scZ, .int .i64 2, .int .i64 3]) fun _ _ => True) := by
 refine K0.enter Tryz.func10 rfl ?_
 refine ZR ?_
 refine ZI false ?_
 refine ZC (fun w1 hw h => hsuf text2 Zd (by decide +kernel)) fun u => ?_
 refine ZI false ?_
 refine ZD 1 (fun w1 hw h => sl_f (l := text2) (ws := [Mg, R6]) (n := 2) (N := w.heap.size) (hM.below hw) (by decide +kernel) Zd (by decide +kernel) Zd Zd hw.size) fun q => ?_
 refine K0.make (boxS 74 (.agg #[.int .i64 0, .int .i64 0, .int .u8 0, .int .u8 0, .int .u8 0, .int .u8 0, .slice none 0 0, .int .i64 0, .int .i64 0, .int .i64 (-1)])) (ptr) (fun g u => Ka u g (Qj 0 0 0 0 0 0 N4 0 0 (-1)) ∧ w.heap.size ≤ g ∧ g < u.heap.size) Zk (fun w1 hw h => Uv (v := .agg (Qj 0 0 0 0 0 0 N4 0 0 (-1)).toArray) hw.size) (fun gt => ?_)
 refine ZR ?_
 refine K0.mut (X := Value) (L := [gt]) (g := 25) (args := #[.pointer (some ⟨gt, 0, none⟩), .slice q.1.1 2 q.1.2]) (val := fun _ => .bool false) (G := fun l u => Ka u gt (Qj 4 4 255 255 255 255 l 1 2 (-1))) (Φ' := fun l u => Ka u gt (Qj 4 4 255 255 255 255 l 1 2 (-1))) (fun w1 hw h => all_2 (c := q.1.2) hM hw h.2.2.1 h.1.2.1 h.1.2.2 h.2.1) (fun u h b hb => by obtain rfl : b = gt := by { simpa using hb }; exact ⟨h.2.2.1, h.2.1.own⟩) (fun _ wa u e1 e2 h hG => hG) Zk Zk (fun l => ?_)
 refine ZR ?_
 refine ZI true ?_
 refine ZB 4 (L7 3 ⟨gt, 8, none⟩) (.int .i64 2) (fun w1 hw h => K9 Zk (by rw [h.cell]; rfl)) ?_
 exact ZW (.tuple #[scZ, .int .i64 2, .int .i64 3])
end
section
open Go.RowKit
--ATNAMES
def Z5 (k : Co) : Pn := ⟨1, k, 0, 0, 0, 0, 0, [], 0, im0, 0, Qc⟩
theorem sol_cells (k : Co) : ∃ C : List Value, C.length = 40 ∧ pnV (Z5 k) pm0 = .agg C.toArray ∧ (∀ u ∈ C, u.oneCell' = true) ∧ C = pnC (Z5 k) pm0 :=
 ⟨pnC (Z5 k) pm0, by kernel_rfl, by kernel_rfl, List.all_eq_true.1 (show ((pnC (Z5 k) pm0).all fun u => u.oneCell') = true from by kernel_rfl), rfl⟩
section
variable {w W : World} {g n c : Nat} {A : Option Addr} {ws0 : WS} {f : Bool} {cw l : List UInt8} {k : Co}
theorem paint_e (hk : colP cw = some k) (hR : RE W w g A n c ws0) (hs : Suf ws0 n [Qr, cw]) (hb : Ka w g (Qz A n c 2 f)) : Calls Tryz.prog 60 #[.pointer (some ⟨g, 0, none⟩)] w
 (Nn w [g] (fun _ : Unit => pnV (Z5 k) pm0) fun _ u => Ka u g (Qz A n c 0 f)) := by
 have lg := hR.lg
 have hs1 := hs.tail
 have hrd : rdC f [cw] = some (k, [], f) := by show (colP cw).map (fun c => (c, [], f)) = _; rw [hk]; rfl
 refine K0.enterB Tryz.func60 rfl hR.hW lg hb ?_
 refine ZR ?_
 refine K0.mut (L := [g]) (Φ' := fun _ u => But W w g (Qz A n c 1 f) u) (fun w1 hw h => Te (hR.next hw h) hs h.2.2) (fun u h => Nb (cs' := []) lg u h) (fun _ wa u e1 e2 h hG => Nj wa u e1 e2 h hG) Zk Zk (fun _ => ?_)
 refine ZS 0 ?_
 refine ZA (S3 .eql 9 (.tmp 5) (.const (.string ⟨#[115, 111, 108, 105, 100]⟩)) (K3 Qr) (K3 [115, 111, 108, 105, 100])) (.bool true) (fun w1 hw h => Pq Zd) ?_
 refine ZI true ?_
 refine K0.mut (L := [g]) (Φ' := fun _ u => But W w g (Qz A n c 0 f) u) (fun w1 hw h => by have t := colour_t (hR.next hw h) hs1 h.2.2; rw [hrd] at t; exact t) (fun u h => Nb (cs' := []) lg u h) (fun _ wa u e1 e2 h hG => Nj wa u e1 e2 h hG) Zk Zk (fun _ => ?_)
 refine ZR ?_
 refine K0.mut (L := [g]) (Φ' := fun _ u => But W w g (Qz A n c 0 f) u) (fun w1 hw h => end_s hw lg h.2.2) (fun u h => Nb (cs' := []) lg u h) (fun _ wa u e1 e2 h hG => Nj wa u e1 e2 h hG) Zk Zk (fun _ => ?_)
 refine ZR ?_
 refine ZV (pnV (Z5 k) pm0) (fun w1 hw h => Pz hR.hW hw (h w1 (Nat.le_refl _) fun _ _ _ => rfl))
theorem read_e (hM : ML w) (hB : allW (Qb l) = true) (hl : l.length ≤ 10000) (hws : Of (Qb l) = [Qr, cw]) (hc9 : cw.length ≤ 10000) (hk : colP cw = some k) : Calls Tryz.prog 26 #[K3 l] w (K5 w (fun _ : Unit => .tuple #[pnV (Z5 k) pm0, .bool true]) fun _ _ => True) := by
 obtain ⟨C, hCl, hCv, hC1, _⟩ := sol_cells k
 have hsf := fun (w1 : World) (hM : ML w1) => sf_c (w := w1) hM hB (show l.length ≤ 10000000 from by omega)
 rw [hws] at hsf
 refine K0.enterD Tryz.func26 rfl (Below.refl _ _) ?_
 refine ZS 0 ?_
 refine K0.make (allS 56) (ptr) (fun g u => Ka u g pnZ ∧ w.heap.size ≤ g ∧ g < u.heap.size) Zk (fun w1 hw h => Uw (z := .agg pnZ.toArray) Zk hw.size) (fun gp => ?_)
 refine ZS 1 ?_
 refine K0.make (allS 4) (ptr) (fun g u => Ka u g [.bool false] ∧ gp + 1 ≤ g ∧ g < u.heap.size) Zk (fun w1 hw h => Uw (z := .bool false) Zk h.2.2.2) (fun go => ?_)
 refine ZR ?_
 refine ZC (fun w1 hw h => hsf w1 (hM.below hw)) fun y => ?_
 refine ZI false ?_
 refine K0.defer_ ⟨.fn (.func 59) #[.pointer (some ⟨gp, 0, none⟩), .pointer (some ⟨go, 0, none⟩)], #[]⟩ Zk Zk ?_
 refine ZS 2 ?_
 have hmk : ∀ w1 : World, go < w1.heap.size → Kj w1 y.1 2 [Qr, cw] → max (go + 1) (yb y.1) ≤ w1.heap.size := fun w1 k1 k2 => by
  obtain ⟨ad, q1, q2⟩ := k2.2 0 _ rfl
  have q3 := cell_lt q2
  rw [Pc] at q3
  rw [q1]
  exact Nat.max_le.2 ⟨k1, q3⟩
 refine K0.make (boxS 112 (.agg #[.slice y.1 2 y.2, .bool false])) (ptr) (fun g u => Ka u g [.slice y.1 2 y.2, .bool false] ∧ max (go + 1) (yb y.1) ≤ g ∧ g < u.heap.size) Zk (fun w1 hw h => Uv (v := .agg #[.slice y.1 2 y.2, .bool false]) (hmk w1 h.1.2.2.2 h.2.1)) (fun gr => ?_)
 refine ZR ?_
 have hg : go < max (go + 1) (yb y.1) := by omega
 refine K0.mut (g := 60) (args := #[.pointer (some ⟨gr, 0, none⟩)]) (L := [gr]) (val := fun _ : Unit => pnV (Z5 k) pm0) (G := fun _ u => Ka u gr (Qz y.1 2 y.2 0 false)) (Φ' := fun _ u => TwoR w gp go pnZ false u ∧ Ka u gr (Qz y.1 2 y.2 0 false) ∧ go < gr) (fun w1 hw h => ?_) (fun u h b hb => ?_) (fun q wa u e1 e2 h hG => ?_) Zk Zk (fun q => ?_)
 ·have k1 := h.1.1.1.2; have k2 := h.1.1.2; have k3 := h.1.2; have k4 := h.2
  refine paint_e (ws0 := [Qr, cw]) hk ⟨hw, by omega, k3.1, fun ad h0 e => ?_, k3.2, by decide, fun z hz => ?_⟩ ⟨rfl, Nat.le_refl _⟩ ?_
  ·have k5 := k4.2.1
   rw [e] at k5
   have : ad.block + 1 ≤ max (go + 1) (yb (some ad)) := Nat.le_max_right _ _
   omega
  ·rcases List.mem_cons.1 hz with rfl | hz
   ·decide
   ·obtain rfl : z = cw := by simpa using hz
    exact hc9
  ·have e : Qz y.1 2 y.2 2 false = [.slice y.1 2 y.2, .bool false] := by
    unfold Qz rsl
    rw [Nat.sub_self, stepA_zero, Nat.sub_zero]
   rw [e]; exact k4.1
 ·obtain rfl : b = gr := by simpa using hb
  have k1 := h.1.1.1.2.2.1; have k2 := h.1.1.2.2.1; have k3 := h.2.2.1
  exact ⟨by omega, h.2.1.own⟩
 ·have k1 := h.1.1.1.2; have k2 := h.1.1.2; have k3 := h.2.2.1
  exact ⟨TwoR.left ⟨k1.1, k2.1, k1.2.1, k2.2.1, k2.2.2⟩ e1 e2 Zo, hG, by omega⟩
 refine ZT 22 (pnV (Z5 k) pm0) (.agg C.toArray) (hCv) ?_
 refine K0.mutSt (L := [gp]) (G := fun u => Ka u gp C) (Φ' := fun u => TwoR w gp go C false u ∧ Ka u gr (Qz y.1 2 y.2 0 false) ∧ go < gr) (stS 56 ⟨gp, 0, none⟩ (.agg C.toArray)) (fun w1 hw h => h.1.1.store Zk (by show C.toArray.size = _; simp [hCl]; rfl) hC1) (fun u h b hb => ?_) (fun wa u e1 e2 h hG => ?_) Zk Zk ?_
 ·obtain rfl : b = gp := by simpa using hb
  exact ⟨h.1.2.2.1, h.1.1.own⟩
 ·have k := h.1; have k2 := h.2
  have k3 := k.2.2.2.1
  exact ⟨⟨hG, k.2.1.left e2 Zp, k.2.2.1, k3, by rw [← e1]; exact k.2.2.2.2⟩, k2.1.left e2 Zp, k2.2⟩
 refine ZR ?_
 refine ZB 0 (L7 56 ⟨gp, 0, none⟩) (.agg C.toArray) (fun w1 hw h => M6 (vs := C) Zk (by rw [hCl]; kernel_rfl) h.1.1.range) ?_
 refine ZB 4 (L7 4 ⟨gr, 1, none⟩) (.bool false) (fun w1 hw h => K9 Zk (by rw [h.2.1.cell]; rfl)) ?_
 refine K0.skipAt 6 (stS 56 ⟨gp, 0, none⟩ (.agg C.toArray)) Zk (fun w1 hw h => store_same h.1.1 rfl (by rw [hCl]; kernel_rfl) hC1) ?_
 refine ZR ?_
 refine K0.mutStAny (L := [go]) (G := fun u => Ka u go [.bool true]) (Φ' := fun u => TwoR w gp go C true u) (stS 4 ⟨go, 0, none⟩ (.bool true)) (fun w1 hw h => h.1.2.1.store Zk rfl (by intro u hu; simp [Value.cells] at hu; subst hu; rfl)) (fun u h b hb => ?_) (fun wa u e1 e2 h hG => ?_) Zk Zk ?_
 ·obtain rfl : b = go := by simpa using hb
  have k := h.1
  exact ⟨by have := k.2.2; omega, k.2.1.own⟩
 ·have k := h.1
  have k3 := k.2.2.2.1
  exact ⟨k.1.left e2 Zp, hG, k.2.2.1, k3, by rw [← e1]; exact k.2.2.2.2⟩
 refine ZR ?_
 refine K0.retD2 (f := 59) (args := #[.pointer (some ⟨gp, 0, none⟩), .pointer (some ⟨go, 0, none⟩)]) gp go 56 4 Zk Zk (fun w1 => rfl) (fun w1 hw h => ?_)
 refine (read1_r hw).mono fun e u' w' he => ?_
 obtain ⟨rfl, rfl, hb, hst⟩ := he
 refine ⟨rfl, _, _, _, rfl, load_boxN Zk (by rw [hCl]; kernel_rfl) (h.1.stay h.2.2.1 hst.2), load_box1 Zk (h.2.1.stay (by have := h.2.2; omega) hst.2), (), by rw [← hCv], hb, fun _ _ _ => trivial⟩
theorem ppe_m (hM : ML w) (hB : allW (Qb l) = true) (hl : l.length ≤ 10000) (hws : Of (Qb l) = [Qr, cw]) (hc9 : cw.length ≤ 10000) (hk : colP cw = some k) (hv : Kt (Z5 k) = true) (hj : Lc (O1 (Z5 k)) = l) : Calls Tryz.prog 11 #[K3 l] w (K5 w (fun _ : Unit => .tuple #[pnV (Z5 k) pm0, .int .i64 0]) fun _ _ => True) := by
 refine K0.enter Tryz.func11 rfl ?_
 refine ZR ?_
 refine ZC (fun w1 hw h => read_e (hM.below hw) hB hl hws hc9 hk) fun q => ?_
 refine ZI false ?_
 refine ZD 5 (fun w1 hw h => by have t := formatPaint_s (K := 125) hv ((show PAt 0 (Z5 k) pm0 w1 from ⟨K7.nil_, K7.nil_, .inl ⟨(show (1 : Int) < 2 by decide), rfl, rfl⟩⟩).rd (Nat.le_refl 125)) Zd (Nat.zero_le _); rw [hj] at t; exact t) fun u => ?_
 refine K0.run Zk (stop := 1000) 6 _ ?_
 refine ZS 5 ?_
 refine ZA (S3 .neq 9 (.tmp 24) (.tmp 25) (K3 l) (K3 l)) (.bool false) (fun w1 hw h => run_neS Zs) ?_
 refine ZI false ?_
 exact ZW (.tuple #[pnV (Z5 k) pm0, .int .i64 0])
end
end
section
variable {w : World}
def paintL : List UInt8 := [115, 111, 108, 105, 100, 32, 35, 102, 102, 56, 48, 48, 48, 56, 48]
def orange : Co := (255, 128, 0, 128)
theorem pn_agg (P : Pn) (q : PM) : pnV P q = .agg (pnC P q).toArray := by kernel_rfl
theorem pp_e (hM : ML w) : Calls Tryz.prog 11 #[K3 paintL] w (K5 w (fun _ : Unit => .tuple #[.agg (pnC (Z5 orange) pm0).toArray, .int .i64 0]) fun _ _ => True) := by
 refine (ppe_m (w := w) (l := paintL) (cw := [35, 102, 102, 56, 48, 48, 48, 56, 48]) (k := orange) hM (by decide +kernel) Zd (by decide +kernel) Zd (by decide +kernel) (by decide +kernel) (by decide +kernel)).mono fun e w' h => ?_
 obtain ⟨x, h1, h2, h3⟩ := h
 exact ⟨x, h1.trans (congrArg (fun v => Ending.returned (.tuple #[v, .int .i64 0])) (pn_agg (Z5 orange) pm0)), h2, fun _ _ _ => trivial⟩
theorem example45_m (hM : ML w) : Calls Tryz.prog 5 #[] w (K5 w (fun _ : Unit => .bool true) fun _ _ => True) := by
 refine K0.enter Tryz.func5 rfl ?_
 refine ZR ?_
 refine ZC (fun w1 hw h => parse_1 (hM.below hw)) fun a => ?_
 refine ZC (fun w1 hw h => format_e) fun b => ?_
 refine ZC (fun w1 hw h => parse_2 (hM.below hw)) fun c => ?_
 refine ZD 20 (fun w1 hw h => pp_e (hM.below hw)) fun q => ?_
 refine K0.ask (eqP 23 (.tmp 51) (.tmp 52) (S5 (255, 255, 255, 255)) (S5 (255, 255, 255, 255))) (.bool true) Zk (fun w1 hw h => P9 Zs) ?_
 refine ZS 57 ?_
 refine ZA (eqP 23 (.tmp 88) (.tmp 89) (S5 (255, 128, 0, 128)) (S5 (255, 128, 0, 128))) (.bool true) (fun w1 hw h => P9 Zs) ?_
 exact ZW (.bool true)
end
section
open Go.RowKit
--ATNAMES
section
variable {w : World} {S : Sc} {y : Option Addr × Nat} {nl : List (Nd × ND)}
def FmtC (f : FuncId) (S : Sc) (y : Option Addr × Nat) (T : List UInt8) (E : Int) (w : World) : Prop := ∀ w1, Below w.heap.size w w1 → Calls Tryz.prog f #[soV S y] w1 (K5 w1 (fun _ : Unit => .tuple #[K3 T, .int .i64 E]) fun _ _ => True)
theorem fmt_same {K : Nat} (hE : ET w) (hp : Yc w y.1 nl K S.nds) (hf : ∀ N ∈ S.nds, NFew N ∧ NSm N) (hn : S.nds.length ≤ 12) (hK : 2 ≤ K ∧ K ≤ 1000) (hcap : S.nds.length ≤ y.2) :
 ∃ T E, FmtC 6 S y T E w ∧ FmtC 7 S y T E w := by
 have hf1 : NFs S.nds := fun N hN => (hf N hN).1
 have hs1 : ∀ N ∈ S.nds, NSm N := fun N hN => (hf N hN).2
 cases hB : scOK S
 ·exact ⟨[], 18, fun w1 hw => format_no (hE.below hw) (hp.below hw) hf1 hK hB, fun w1 hw => rformat_no (hp.below hw) hf1 hK hcap hB⟩
 ·by_cases hl : (scT S).length ≤ 65536
  ·refine ⟨scT S, 0, fun w1 hw => ?_, fun w1 hw => ?_⟩
   ·have t := format_yes (hE.below hw) (hp.below hw) hf1 hs1 hn hK hB
    unfold outV at t; rw [if_pos hl] at t; exact t
   ·have t := rformat_yes (hp.below hw) hf1 hs1 hn hK hcap hB
    unfold outV at t; rw [if_pos hl] at t; exact t
  ·refine ⟨[], 5, fun w1 hw => ?_, fun w1 hw => ?_⟩
   ·have t := format_yes (hE.below hw) (hp.below hw) hf1 hs1 hn hK hB
    unfold outV at t; rw [if_neg hl] at t; exact t
   ·have t := rformat_yes (hp.below hw) hf1 hs1 hn hK hcap hB
    unfold outV at t; rw [if_neg hl] at t; exact t
theorem lawFormat45 (hE : ET w) (hM : ML w) (hp : NsRaw w y.1 nl S.nds) (hcap : S.nds.length ≤ y.2 ∧ y.2 ≤ maxLen) : Calls Tryz.prog 3 #[soV S y] w (K5 w (fun _ : Unit => .bool true) fun _ _ => True) := by
 have hn0 : S.nds.length ≤ 9223372036854775807 := by have := hcap.2; unfold maxLen at this; omega
 have hsm : ∀ {B : Bool}, Zz nl = B → ∀ w1, Below w.heap.size w w1 → Calls Tryz.prog 4 #[soV S y] w1 (K5 w1 (fun _ : Unit => .bool B) fun _ _ => True) := fun hB w1 hw => small_v (hp.below hw) hn0 hB
 cases hS : Zz nl
 ·
  refine K0.enter Tryz.func3 rfl ?_
  refine ZR ?_
  refine ZC (fun w1 hw h => hsm hS w1 hw) fun u => ?_
  refine ZI true ?_
  refine ZC (fun w1 hw h => example45_m (hM.below hw)) fun e => ?_
  exact ZW (.bool true)
 have hsm2 := hsm hS
 obtain ⟨S2, nl2, e, h2, h3, h4⟩ := nsraw_rd hp hS
 have e2 : soV S y = soV S2 y := congrArg (fun l => Value.agg (List.toArray l)) e.symm
 have hl2 : S2.nds.length ≤ y.2 := by
  have t := congrArg List.length (show S2.nds.map (fun _ => ()) = S2.nds.map (fun _ => ()) from rfl)
  have t2 : (soC S2 y)[6]? = (soC S y)[6]? := by rw [e]
  simp only [soC, List.getElem?_cons_succ, List.getElem?_cons_zero, Option.some.injEq, Value.slice.injEq] at t2
  omega
 rw [e2] at hsm2 ⊢
 obtain ⟨T, E, hA, hR⟩ := fmt_same hE h2 h3 h4 Zd hl2
 refine K0.enter Tryz.func3 rfl ?_
 refine ZR ?_
 refine ZC (fun w1 hw h => hsm2 w1 hw) fun u => ?_
 refine ZI false ?_
 refine ZC (fun w1 hw h => hA w1 hw) fun a => ?_
 refine ZD 2 (fun w1 hw h => hR w1 hw) fun b => ?_
 refine K0.run Zk (stop := 1000) 1 _ ?_
 refine ZS 2 ?_
 refine K0.ask (S3 .eql 9 (.tmp 21) (.tmp 22) (K3 T) (K3 T)) (.bool true) Zk (fun w1 hw h => Pq Zs) ?_
 refine ZS 9 ?_
 refine ZT 29 (.bool (E == E)) (.bool true) Zs ?_
 refine ZC (fun w1 hw h => example45_m (hM.below hw)) fun e => ?_
 exact ZW (.bool true)
theorem rowFormat45 {x : List Value} (hE : ET w) (hM : ML w) (i : Rd w shScene x) : Calls Tryz.prog 3 #[.agg x.toArray] w (Done w) := by
 obtain ⟨S, y, nl, rfl, h1, h2⟩ := rd_scene i
 exact (lawFormat45 (S := S) (y := y) hE hM h1 h2).mono fun _ _ h => law_done h
end
end
end Go.Proofs.YtdeepdckmhpldaaGreatDoor
