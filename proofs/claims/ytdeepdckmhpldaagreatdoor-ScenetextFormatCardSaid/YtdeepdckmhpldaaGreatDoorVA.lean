/-
 Words and lines.
-/
import Derived.Shelf.Strings.BuilderK
import Derived.Test.YtdeepdckmhpldaaGreatDoorProg
import Derived.KernelRfl
import Derived.Test.YtdeepdckmhpldaaGreatDoorAUQ
import Derived.OpenShut
import Derived.Lib.SmallJoins
import Derived.ChangeSlices
import Derived.Deep.Slices
import Derived.Test.YtdeepdckmhpldaaGreatDoorASh
namespace Go.Proofs.YtdeepdckmhpldaaGreatDoor
set_option maxRecDepth 100000
set_option maxHeartbeats 8000000
set_option linter.unusedVariables false
set_option linter.unusedSimpArgs false
open Go.RowKit
section
open Go.Shelf
def Tryz.layB_ren : Go.Shelf.Ren := ⟨fun | 240 => 76 | 167 => 64 | 166 => 40 | 276 => 137 | n => n, fun | 0 => 0 | 3 => 3 | 4 => 4 | 5 => 5 | 9 => 9 | 20 => 20 | 37 => 86 | 70 => 92 | 72 => 94 | 75 => 96 | 80 => 99 | 164 => 182 | n => n, fun | n => n⟩
theorem Tryz.layB167 : Go.Proofs.Lays.n167 Tryz.prog Tryz.layB_ren := {
 mixed := by kernel_rfl
 f167 := Tryz.func64.trans (congrArg some Zk)
 f240 := Tryz.func76.trans (congrArg some Zk)
 f276 := Tryz.func137.trans (congrArg some Zk)
 t0 := Tryz.underlying0
 a0 := Tryz.isAgg0
 z0 := Tryz.sizeOf0
 v0 := Tryz.zeroValue0
 t4 := Tryz.underlying4
 a4 := Tryz.isAgg4
 z4 := Tryz.sizeOf4
 v4 := Tryz.zeroValue4
 t5 := Tryz.underlying5
 a5 := Tryz.isAgg5
 z5 := Tryz.sizeOf5
 v5 := Tryz.zeroValue5
 t9 := Tryz.underlying9
 a9 := Tryz.isAgg9
 z9 := Tryz.sizeOf9
 v9 := Tryz.zeroValue9
 t20 := Tryz.underlying20
 a20 := Tryz.isAgg20
 z20 := Tryz.sizeOf20
 v20 := Tryz.zeroValue20
 t37 := Tryz.underlying86
 a37 := Tryz.isAgg86
 z37 := Tryz.sizeOf86
 v37 := Tryz.zeroValue86
 t70 := Tryz.underlying92
 a70 := Tryz.isAgg92
 z70 := Tryz.sizeOf92
 v70 := Tryz.zeroValue92
 t72 := Tryz.underlying94
 a72 := Tryz.isAgg94
 z72 := Tryz.sizeOf94
 v72 := Tryz.zeroValue94
 t75 := Tryz.underlying96
 a75 := Tryz.isAgg96
 z75 := Tryz.sizeOf96
 v75 := Tryz.zeroValue96
 t164 := Tryz.underlying182
 a164 := Tryz.isAgg182
 z164 := Tryz.sizeOf182
 v164 := Tryz.zeroValue182 }
theorem Tryz.layB166 : Go.Proofs.Lays.n166 Tryz.prog Tryz.layB_ren := {
 mixed := by kernel_rfl
 f166 := Tryz.func40.trans (congrArg some Zk)
 f240 := Tryz.func76.trans (congrArg some Zk)
 f276 := Tryz.func137.trans (congrArg some Zk)
 t0 := Tryz.underlying0
 a0 := Tryz.isAgg0
 z0 := Tryz.sizeOf0
 v0 := Tryz.zeroValue0
 t3 := Tryz.underlying3
 a3 := Tryz.isAgg3
 z3 := Tryz.sizeOf3
 v3 := Tryz.zeroValue3
 t4 := Tryz.underlying4
 a4 := Tryz.isAgg4
 z4 := Tryz.sizeOf4
 v4 := Tryz.zeroValue4
 t9 := Tryz.underlying9
 a9 := Tryz.isAgg9
 z9 := Tryz.sizeOf9
 v9 := Tryz.zeroValue9
 t20 := Tryz.underlying20
 a20 := Tryz.isAgg20
 z20 := Tryz.sizeOf20
 v20 := Tryz.zeroValue20
 t37 := Tryz.underlying86
 a37 := Tryz.isAgg86
 z37 := Tryz.sizeOf86
 v37 := Tryz.zeroValue86
 t70 := Tryz.underlying92
 a70 := Tryz.isAgg92
 z70 := Tryz.sizeOf92
 v70 := Tryz.zeroValue92
 t72 := Tryz.underlying94
 a72 := Tryz.isAgg94
 z72 := Tryz.sizeOf94
 v72 := Tryz.zeroValue94
 t75 := Tryz.underlying96
 a75 := Tryz.isAgg96
 z75 := Tryz.sizeOf96
 v75 := Tryz.zeroValue96
 t164 := Tryz.underlying182
 a164 := Tryz.isAgg182
 z164 := Tryz.sizeOf182
 v164 := Tryz.zeroValue182 }
theorem Tryz.layBX : Builder.Extra Tryz.prog Tryz.layB_ren := {
 sizeBuilder := by kernel_rfl
 liesBuilder := by kernel_rfl
 t5 := Tryz.underlying5
 a5 := Tryz.isAgg5
 z5 := Tryz.sizeOf5
 v5 := Tryz.zeroValue5
 infoByte := by kernel_rfl
 cellsByte := by kernel_rfl
 sizeByte := by kernel_rfl
 neB5 := by decide }
end
def Ly (c : UInt8) : Bool := (decide (97 ≤ c.toNat) && decide (c.toNat ≤ 122)) || (decide (65 ≤ c.toNat) && decide (c.toNat ≤ 90)) || (decide (48 ≤ c.toNat) && decide (c.toNat ≤ 57)) || [46, 95, 58, 47, 43, 45, 44, 61, 35].contains c.toNat
def q1 (c : UInt8) : List UInt8 := if Ly c then [c] else 42 :: enc2 c
def Rs (l : List UInt8) : List UInt8 := if l = [] then [42] else l.flatMap q1
def unqS : List UInt8 → Option (List UInt8)
 | [] => some []
 | c :: l => if Ly c then (unqS l).map (c :: ·) else if c = 42 then (match l with
  | a :: b :: r => if Lx a < 0 ∨ Lx b < 0 ∨ Ly (N8 a b) = true then none else (unqS r).map (N8 a b :: ·)
  | _ => none) else none
termination_by l => l.length
def Zu (w : List UInt8) : Option (List UInt8) := if w = [42] then some [] else match unqS w with
 | some b => if b = [] then none else some b
 | none => none
theorem q1_plain {c : UInt8} (h : Ly c = true) : q1 c = [c] := if_pos h
theorem q1_not {c : UInt8} (h : Ly c = false) : q1 c = 42 :: enc2 c := if_neg (by rw [h]; decide)
theorem plain_mark : Ly 42 = false := by decide +kernel
theorem hex_lt (b : UInt8) : b.toNat / 16 < 16 ∧ b.toNat % 16 < 16 := by have := b.toNat_lt; omega
theorem unqS_plain {c : UInt8} {l : List UInt8} (h : Ly c = true) : unqS (c :: l) = (unqS l).map (c :: ·) := by rw [unqS.eq_def]; exact if_pos h
theorem unqS_mark {a b : UInt8} {r : List UInt8} : unqS (42 :: a :: b :: r) = if Lx a < 0 ∨ Lx b < 0 ∨ Ly (N8 a b) = true then none else (unqS r).map (N8 a b :: ·) := by
 rw [unqS.eq_def]
 show (if Ly 42 = true then _ else if (42 : UInt8) = 42 then _ else _) = _
 rw [if_neg (by rw [plain_mark]; decide), if_pos rfl]
theorem unqS_short {l : List UInt8} (h : l.length < 2) : unqS (42 :: l) = none := by
 rw [unqS.eq_def]
 show (if Ly 42 = true then _ else if (42 : UInt8) = 42 then _ else _) = _
 rw [if_neg (by rw [plain_mark]; decide), if_pos rfl]
 match l, h with
 | [], _ => rfl
 | [_], _ => rfl
 | _ :: _ :: _, h => simp at h; omega
theorem unqS_bad {c : UInt8} {l : List UInt8} (h : Ly c = false) (h2 : c ≠ 42) : unqS (c :: l) = none := by
 rw [unqS.eq_def]
 show (if Ly c = true then _ else if c = 42 then _ else _) = _
 rw [if_neg (by rw [h]; decide), if_neg h2]
theorem q1_len (c : UInt8) : 1 ≤ (q1 c).length ∧ (q1 c).length ≤ 3 := by
 unfold q1; split <;> simp [enc2]
theorem flat_len (l : List UInt8) : l.length ≤ (l.flatMap q1).length ∧ (l.flatMap q1).length ≤ 3 * l.length := by
 induction l with
 | nil => simp
 | cons c l ih =>
  have := q1_len c
  simp only [List.flatMap_cons, List.length_append, List.length_cons]
  omega
theorem quo_len (l : List UInt8) : 1 ≤ (Rs l).length ∧ (Rs l).length ≤ 3 * l.length + 1 := by
 unfold Rs
 split
 ·simp
 ·rename_i h
  have := flat_len l
  have : 0 < l.length := List.length_pos_iff.2 h
  omega
def L8 (c : UInt8) : List UInt8 → List (List UInt8)
 | [] => [[]]
 | b :: l => if b = c then [] :: L8 c l else match L8 c l with
  | [] => [[b]]
  | h :: t => (b :: h) :: t
def Mj (c : UInt8) : List (List UInt8) → List UInt8
 | [] => []
 | [x] => x
 | x :: l => x ++ c :: Mj c l
theorem splitBy_eq {c : UInt8} {l : List UInt8} : L8 c (c :: l) = [] :: L8 c l := by rw [L8, if_pos rfl]
def Of : List (List UInt8) → List (List UInt8)
 | [] => []
 | w :: l => match Zu w with
  | some p => p :: Of l
  | none => []
def allW (l : List (List UInt8)) : Bool := l.all fun w => (Zu w).isSome
def Lc (l : List (List UInt8)) : List UInt8 := Mj 32 (l.map Rs)
def Qb (l : List UInt8) : List (List UInt8) := if l = [] then [] else L8 32 l
def Lw (l : List (List UInt8)) : List UInt8 := l.flatMap (· ++ [10])
theorem joinN_cons (x : List UInt8) (l : List (List UInt8)) : Lw (x :: l) = x ++ 10 :: Lw l := by simp [Lw]
def linesN (l : List UInt8) : List (List UInt8) := if l = [] then [] else L8 10 l.dropLast
def okN (l : List UInt8) : Bool := l.isEmpty || l.getLast? == some 10
section
variable {P : Program} {Δ : List Deferred} {W : World} {Q : Exit → Act → World → Prop} {Φ : World → Prop} {c : O5}
theorem K0.callB {X : Type} {val : X → Value} {g : FuncId} {args : Array Value} {Φ' : X → World → Prop}
 (hs : ∀ w, Below W.heap.size W w → Φ w → Calls P g args w (fun e w' => ∃ x, e = .returned (val x) ∧ Below W.heap.size w w' ∧ ∀ w'', w'.heap.size ≤ w''.heap.size → (∀ b, W.heap.size ≤ b → b < w'.heap.size → w''.heap[b]? = w'.heap[b]?) → Φ' x w''))
 (hb : c.st.box = fun _ => none) (hf : Xt c = true) (hc : Oh P c = some (g, args)) (h : ∀ x, K0 P Δ W Q (Φ' x) (Li (.v (val x)) c)) : K0 P Δ W Q Φ c := by
 obtain ⟨foc, k, σ⟩ := c
 have hb : σ.box = fun _ => none := hb
 replace h := fun x => (h x).get
 refine ⟨?_⟩
 unfold Oh at hc
 split at hc
 ·rename_i g' xs hn
  split at hc
  ·rename_i vs hv
   injection hc with hc
   injection hc with h1 h2
   subst h1; subst h2
   unfold Up at hn
   split at hn
   ·rename_i ops o ho
    split at hn
    ·rename_i hw
     unfold Pw at ho
     simp only at ho
     split at ho
     ·rename_i ops' i l
      cases hoi : ops'[i]? with
      | none => rw [hoi] at ho; cases ho
      | some o' =>
       rw [hoi] at ho
       simp only [Option.map_some, Option.some.injEq, Prod.mk.injEq] at ho
       obtain ⟨rfl, rfl⟩ := ho
       intro hwf β a w hr
       show wpOps P ops' (post P Q k) (i :: l) a w
       rw [wpOps_cons]
       unfold wpOp
       simp only [hoi, M1 hr, hw, if_true]
       refine .inl ?_
       unfold Oper.wp
       rw [acall_ok hn hr, Qy hv]
       refine Calls.mono (hs w hr.bel hr.phi) fun e w' he => ?_
       obtain ⟨x, rfl, hch, hG⟩ := he
       simp only [Sr, Li, hoi, Option.bind_some] at h
       have hr' : Q1 Δ W β σ (Φ' x) a w' := ⟨hr.tmps, hr.defers, ⟨hch.os.trans hr.bel.os, hch.tape.trans hr.bel.tape, hch.output.trans hr.bel.output, Nat.le_trans hr.bel.size hch.size, fun k hk => (hch.block k hk).trans (hr.bel.block k hk)⟩, (fun k cs hk => by rw [hb] at hk; cases hk), hr.inj, (fun w'' hw => hG w'' hw.size fun b h1 h2 => hw.heap b h1 h2 fun k hk => by rw [hb] at hk; cases hk)⟩
       exact h x (hwf.put _ (by intro k hk; simp [AV.ids] at hk)) β _ w' (hr'.put o'.dst (.v (val x)))
     ·cases hf
     ·cases ho
    ·cases hn
   ·cases hn
  ·cases hc
 ·cases hc
end
def BAt (W : World) (g : Nat) (bs : List UInt8) (u : World) : Prop := Lib.IsBuilderF 94 5 W.heap.size g (Lib.byteCells bs) u
theorem ownsRowF_same {u v : World} {B : Nat} {e : TypeId} {x : Value} {n : Nat} {xs : List Value} (h : u.ownsRowF B e 1 x n xs) (e2 : ∀ k, B ≤ k → k < u.heap.size → v.heap[k]? = u.heap[k]?) : v.ownsRowF B e 1 x n xs := by
 refine ⟨h.1, ?_⟩
 rcases h.2 with h1 | ⟨g, cap, cur, fz, h1, h2, h3, rest⟩
 ·exact .inl h1
 ·exact .inr ⟨g, cap, cur, fz, h1, h2, (e2 g h2 (Array.getElem?_eq_some_iff.1 h3).1).trans h3, rest⟩
theorem Zh {u v : World} {T e : TypeId} {B b : Nat} {p : Value} {bs : List Value} (h : Lib.BuilderAtF T e B b p bs u) (e2 : ∀ k, B ≤ k → k < u.heap.size → v.heap[k]? = u.heap[k]?) : Lib.BuilderAtF T e B b p bs v := by
 have hlt := h.lt
 obtain ⟨hB, x, hv, hown, hne⟩ := h
 exact ⟨hB, x, (e2 b hB hlt).trans hv, ownsRowF_same hown e2, hne⟩
theorem BAt.same {W u v : World} {g : Nat} {bs : List UInt8} (h : BAt W g bs u) (e2 : ∀ k, W.heap.size ≤ k → k < u.heap.size → v.heap[k]? = u.heap[k]?) : BAt W g bs v :=
 h.elim (fun x => .inl (Zh x e2)) (fun x => .inr (Zh x e2))
theorem byteCells_add (l : List UInt8) (c : UInt8) : Lib.byteCells (l ++ [c]) = Lib.byteCells l ++ [.int .u8 c.toNat] := by simp [Lib.byteCells]
theorem byteCells_app (l m : List UInt8) : Lib.byteCells (l ++ m) = Lib.byteCells l ++ Lib.strCells ⟨m.toArray⟩ := by simp [Lib.byteCells, Lib.strCells]
section
variable {W w : World} {g : Nat} {bs l : List UInt8}
theorem make_bld (hB : W.heap.size ≤ w.heap.size) : Le Tryz.prog w ptr (fun g u => BAt W g [] u) (allS 94) :=
 ⟨w.heap.size, w.alloc (.cells #[.pointer none, .slice none 0 0] 94), by simp only [allS, Instr.alloc, Sem.run_bind, T9 (show V8 Tryz.prog 94 = some (.agg #[.pointer none, .slice none 0 0]) by kernel_rfl), Tc, Result.andThen_ok, Sem.run_pure, ptr]; rfl, Rw _ _, fun w'' h1 h2 => .inl ⟨hB, .slice none 0 0, (Tk w _ h1 h2).1, World.ownsRowF_nil _ _ _ _, by simp [Value.ownBlock]⟩⟩
theorem wbyte_m (hw : Below W.heap.size W w) (h : BAt W g bs w) (c : UInt8) (hl : bs.length ≤ 100000000) : Calls Tryz.prog 64 #[ptr g, .int .u8 c.toNat] w (fun e w' => ∃ x : Unit, e = .returned .nilIface ∧ Below W.heap.size w w' ∧ ∀ w'', w'.heap.size ≤ w''.heap.size → (∀ b, W.heap.size ≤ b → b < w'.heap.size → w''.heap[b]? = w'.heap[b]?) → BAt W g (bs ++ [c]) w'') := by
 refine Calls.mono (Any.Builder_WriteByte_k Tryz.layB167 Tryz.layBX W.heap.size g (Lib.byteCells bs) c.toNat w h (by rw [Lib.byteCells_length]; omega) hw.size) fun e w' he => ?_
 obtain ⟨h1, h2, h3, _⟩ := he
 exact ⟨(), h1, h3, fun w'' k1 k2 => by have h4 : BAt W g (bs ++ [c]) w' := .inr (by rw [byteCells_add]; exact h2); exact h4.same k2⟩
theorem wstr_m (hw : Below W.heap.size W w) (h : BAt W g bs w) (hl : bs.length + l.length ≤ 100000000) : Calls Tryz.prog 40 #[ptr g, K3 l] w (fun e w' => ∃ x : Unit, e = .returned (.tuple #[.int .i64 l.length, .nilIface]) ∧ Below W.heap.size w w' ∧ ∀ w'', w'.heap.size ≤ w''.heap.size → (∀ b, W.heap.size ≤ b → b < w'.heap.size → w''.heap[b]? = w'.heap[b]?) → BAt W g (bs ++ l) w'') := by
 refine Calls.mono (Any.Builder_WriteString_k Tryz.layB166 Tryz.layBX W.heap.size g (Lib.byteCells bs) ⟨l.toArray⟩ w h (by rw [Lib.byteCells_length]; show bs.length + l.length ≤ _; omega) hw.size) fun e w' he => ?_
 obtain ⟨h1, h2, h3, _⟩ := he
 exact ⟨(), h1, h3, fun w'' k1 k2 => by have h4 : BAt W g (bs ++ l) w' := .inr (by rw [byteCells_app]; exact h2); exact h4.same k2⟩
theorem bstr_m (hw : Below W.heap.size W w) (h : BAt W g bs w) : Calls Tryz.prog 41 #[ptr g] w (fun e w' => ∃ x : Unit, e = .returned (K3 bs) ∧ Below W.heap.size w w' ∧ ∀ w'' : World, w'.heap.size ≤ w''.heap.size → (∀ b, W.heap.size ≤ b → b < w'.heap.size → w''.heap[b]? = w'.heap[b]?) → True) :=
 Calls.mono (Tryz.Builder_String_any_f W.heap.size g bs w h hw.size) fun e w' he => ⟨(), he.1, he.2.2, fun _ _ _ => trivial⟩
end
def R3 : List UInt8 := [46, 95, 58, 47, 43, 45, 44, 61, 35]
def Q4 (c : UInt8) : Bool := (decide (97 ≤ c.toNat) && decide (c.toNat ≤ 122)) || (decide (65 ≤ c.toNat) && decide (c.toNat ≤ 90)) || (decide (48 ≤ c.toNat) && decide (c.toNat ≤ 57))
theorem u8_back (c : UInt8) : (((c.toNat : Nat) : Int).toNat).toUInt8 = c := by simp
theorem sgn_idx (c : UInt8) : decide (Lib.indexByte R3 c ≥ 0) = [46, 95, 58, 47, 43, 45, 44, 61, 35].contains c.toNat := by
 have key : ∀ n : Fin 256, decide (Lib.indexByte R3 (UInt8.ofNat n.val) ≥ 0) = [46, 95, 58, 47, 43, 45, 44, 61, 35].contains n.val := by decide +kernel
 have := key ⟨c.toNat, by have := c.toNat_lt; omega⟩
 simpa only [UInt8.ofNat_toNat] using this
theorem hex_idx (c : UInt8) : Lib.indexByte hexT c = Lx c := by
 have key : ∀ n : Fin 256, Lib.indexByte hexT (UInt8.ofNat n.val) = Lx (UInt8.ofNat n.val) := by decide +kernel
 have := key ⟨c.toNat, by have := c.toNat_lt; omega⟩
 simpa only [UInt8.ofNat_toNat] using this
theorem T3 {c : UInt8} (h : Q4 c = true) : Ly c = true := by
 unfold Ly; unfold Q4 at h; rw [h]; rfl
theorem Yr {c : UInt8} (h : Q4 c = false) : Ly c = decide (Lib.indexByte R3 c ≥ 0) := by
 rw [sgn_idx]; unfold Ly; unfold Q4 at h; rw [h]; rfl
section
variable {w : World} {l : List UInt8}
theorem sgn_m (c : UInt8) : Calls Tryz.prog 123 #[K3 R3, .int .u8 c.toNat] w (K5 w (fun _ : Unit => .int .i64 (Lib.indexByte R3 c)) fun _ _ => True) :=
 Calls.mono (Tryz.strings_IndexByte ⟨R3.toArray⟩ c.toNat w) fun e w' he => ⟨(), by rw [he.1, u8_back], by rw [he.2]; exact Below.refl _ _, fun _ _ _ => trivial⟩
theorem hexi_m (c : UInt8) : Calls Tryz.prog 123 #[K3 hexT, .int .u8 c.toNat] w (K5 w (fun _ : Unit => .int .i64 (Lx c)) fun _ _ => True) :=
 Calls.mono (Tryz.strings_IndexByte ⟨hexT.toArray⟩ c.toNat w) fun e w' he => ⟨(), by rw [he.1, u8_back, ← hex_idx], by rw [he.2]; exact Below.refl _ _, fun _ _ _ => trivial⟩
theorem plain_m (c : UInt8) : Calls Tryz.prog 63 #[.int .u8 c.toNat] w (K5 w (fun _ : Unit => .bool (Ly c)) fun _ _ => True) := by
 have hc : (97 ≤ c.toNat ∧ c.toNat ≤ 122) ∨ (122 < c.toNat) ∨ (90 < c.toNat ∧ c.toNat < 97) ∨ (65 ≤ c.toNat ∧ c.toNat ≤ 90) ∨ (57 < c.toNat ∧ c.toNat < 65) ∨ (48 ≤ c.toNat ∧ c.toNat ≤ 57) ∨ (c.toNat < 48) := by omega
 refine K0.enter Tryz.func63 rfl ?_
 refine ZS 2 ?_
 rcases hc with hc | hc | hc | hc | hc | hc | hc
 ·have hL : Q4 c = true := by unfold Q4; simp; omega
  refine K0.slot 5 (.bool (decide ((((c.toNat : Nat)) : Int) ≥ 97))) (.bool true) Zk (by rw [decide_eq_true Zo]) ?_
  refine ZS 6 ?_
  refine K0.slot 9 (.bool (decide ((((c.toNat : Nat)) : Int) ≤ 122))) (.bool true) Zk (by rw [decide_eq_true Zo]) ?_
  refine ZS 1 ?_
  refine ZR ?_
  exact ZX (.bool true) (by rw [T3 hL])
 ·have hL : Q4 c = false := by unfold Q4; simp; omega
  refine K0.slot 5 (.bool (decide ((((c.toNat : Nat)) : Int) ≥ 97))) (.bool true) Zk (by rw [decide_eq_true Zo]) ?_
  refine ZS 6 ?_
  refine K0.slot 9 (.bool (decide ((((c.toNat : Nat)) : Int) ≤ 122))) (.bool false) Zk (by rw [decide_eq_false Zo]) ?_
  refine ZS 9 ?_
  refine K0.slot 12 (.bool (decide ((((c.toNat : Nat)) : Int) ≥ 65))) (.bool true) Zk (by rw [decide_eq_true Zo]) ?_
  refine ZS 1 ?_
  refine K0.slot 18 (.bool (decide ((((c.toNat : Nat)) : Int) ≤ 90))) (.bool false) Zk (by rw [decide_eq_false Zo]) ?_
  refine ZS 4 ?_
  refine K0.slot 21 (.bool (decide ((((c.toNat : Nat)) : Int) ≥ 48))) (.bool true) Zk (by rw [decide_eq_true Zo]) ?_
  refine ZS 9 ?_
  refine ZT 26 (.bool (decide ((((c.toNat : Nat)) : Int) ≤ 57))) (.bool false) (by rw [decide_eq_false Zo]) ?_
  refine ZC (fun w1 hw h => sgn_m c) fun u => ?_
  exact ZX (.bool (decide (Lib.indexByte R3 c ≥ 0))) (by rw [Yr hL])
 ·have hL : Q4 c = false := by unfold Q4; simp; omega
  refine K0.slot 5 (.bool (decide ((((c.toNat : Nat)) : Int) ≥ 97))) (.bool false) Zk (by rw [decide_eq_false Zo]) ?_
  refine ZS 6 ?_
  refine ZS 9 ?_
  refine K0.slot 12 (.bool (decide ((((c.toNat : Nat)) : Int) ≥ 65))) (.bool true) Zk (by rw [decide_eq_true Zo]) ?_
  refine ZS 1 ?_
  refine K0.slot 18 (.bool (decide ((((c.toNat : Nat)) : Int) ≤ 90))) (.bool false) Zk (by rw [decide_eq_false Zo]) ?_
  refine ZS 4 ?_
  refine K0.slot 21 (.bool (decide ((((c.toNat : Nat)) : Int) ≥ 48))) (.bool true) Zk (by rw [decide_eq_true Zo]) ?_
  refine ZS 9 ?_
  refine ZT 26 (.bool (decide ((((c.toNat : Nat)) : Int) ≤ 57))) (.bool false) (by rw [decide_eq_false Zo]) ?_
  refine ZC (fun w1 hw h => sgn_m c) fun u => ?_
  exact ZX (.bool (decide (Lib.indexByte R3 c ≥ 0))) (by rw [Yr hL])
 ·have hL : Q4 c = true := by unfold Q4; simp; omega
  refine K0.slot 5 (.bool (decide ((((c.toNat : Nat)) : Int) ≥ 97))) (.bool false) Zk (by rw [decide_eq_false Zo]) ?_
  refine ZS 6 ?_
  refine ZS 9 ?_
  refine K0.slot 12 (.bool (decide ((((c.toNat : Nat)) : Int) ≥ 65))) (.bool true) Zk (by rw [decide_eq_true Zo]) ?_
  refine ZS 1 ?_
  refine ZT 18 (.bool (decide ((((c.toNat : Nat)) : Int) ≤ 90))) (.bool true) (by rw [decide_eq_true Zo]) ?_
  exact ZX (.bool true) (by rw [T3 hL])
 ·have hL : Q4 c = false := by unfold Q4; simp; omega
  refine K0.slot 5 (.bool (decide ((((c.toNat : Nat)) : Int) ≥ 97))) (.bool false) Zk (by rw [decide_eq_false Zo]) ?_
  refine ZS 6 ?_
  refine ZS 9 ?_
  refine K0.slot 12 (.bool (decide ((((c.toNat : Nat)) : Int) ≥ 65))) (.bool false) Zk (by rw [decide_eq_false Zo]) ?_
  refine ZS 1 ?_
  refine ZS 4 ?_
  refine K0.slot 21 (.bool (decide ((((c.toNat : Nat)) : Int) ≥ 48))) (.bool true) Zk (by rw [decide_eq_true Zo]) ?_
  refine ZS 9 ?_
  refine ZT 26 (.bool (decide ((((c.toNat : Nat)) : Int) ≤ 57))) (.bool false) (by rw [decide_eq_false Zo]) ?_
  refine ZC (fun w1 hw h => sgn_m c) fun u => ?_
  exact ZX (.bool (decide (Lib.indexByte R3 c ≥ 0))) (by rw [Yr hL])
 ·have hL : Q4 c = true := by unfold Q4; simp; omega
  refine K0.slot 5 (.bool (decide ((((c.toNat : Nat)) : Int) ≥ 97))) (.bool false) Zk (by rw [decide_eq_false Zo]) ?_
  refine ZS 6 ?_
  refine ZS 9 ?_
  refine K0.slot 12 (.bool (decide ((((c.toNat : Nat)) : Int) ≥ 65))) (.bool false) Zk (by rw [decide_eq_false Zo]) ?_
  refine ZS 1 ?_
  refine ZS 4 ?_
  refine K0.slot 21 (.bool (decide ((((c.toNat : Nat)) : Int) ≥ 48))) (.bool true) Zk (by rw [decide_eq_true Zo]) ?_
  refine ZS 9 ?_
  refine ZT 26 (.bool (decide ((((c.toNat : Nat)) : Int) ≤ 57))) (.bool true) (by rw [decide_eq_true Zo]) ?_
  exact ZX (.bool true) (by rw [T3 hL])
 ·have hL : Q4 c = false := by unfold Q4; simp; omega
  refine K0.slot 5 (.bool (decide ((((c.toNat : Nat)) : Int) ≥ 97))) (.bool false) Zk (by rw [decide_eq_false Zo]) ?_
  refine ZS 6 ?_
  refine ZS 9 ?_
  refine K0.slot 12 (.bool (decide ((((c.toNat : Nat)) : Int) ≥ 65))) (.bool false) Zk (by rw [decide_eq_false Zo]) ?_
  refine ZS 1 ?_
  refine ZS 4 ?_
  refine K0.slot 21 (.bool (decide ((((c.toNat : Nat)) : Int) ≥ 48))) (.bool false) Zk (by rw [decide_eq_false Zo]) ?_
  refine ZS 9 ?_
  refine ZR ?_
  refine ZC (fun w1 hw h => sgn_m c) fun u => ?_
  exact ZX (.bool (decide (Lib.indexByte R3 c ≥ 0))) (by rw [Yr hL])
theorem sgnL_at {k : Nat} (h : k < 9) : ∃ b, R3[k]? = some b := ⟨_, List.getElem?_eq_getElem (by exact h)⟩
theorem sgn_yes {k : Nat} {c : UInt8} (h : R3[k]? = some c) : Ly c = true := by
 have hm : c ∈ R3 := List.mem_of_getElem? h
 have key : ∀ b ∈ R3, Ly b = true := by decide +kernel
 exact key c hm
theorem sgn_no {c : UInt8} (hL : Q4 c = false) (h : ∀ j, j < 9 → R3[j]? ≠ some c) : Ly c = false := by
 have hm : c ∉ R3 := fun k => by
  obtain ⟨i, hi, e⟩ := List.getElem_of_mem k
  exact h i hi (by rw [List.getElem?_eq_getElem hi, e])
 cases hp : Ly c
 ·rfl
 ·have key : ∀ n : Fin 256, Q4 (UInt8.ofNat n.val) = false → Ly (UInt8.ofNat n.val) = true → UInt8.ofNat n.val ∈ R3 := by decide +kernel
  have := key ⟨c.toNat, by have := c.toNat_lt; omega⟩
  simp only [UInt8.ofNat_toNat] at this
  exact absurd (this hL hp) hm
theorem stands_m (c : UInt8) : Calls Tryz.prog 78 #[.int .u8 c.toNat] w (K5 w (fun _ : Unit => .bool (Ly c)) fun _ _ => True) := by
 have hc : (97 ≤ c.toNat ∧ c.toNat ≤ 122) ∨ (122 < c.toNat) ∨ (90 < c.toNat ∧ c.toNat < 97) ∨ (65 ≤ c.toNat ∧ c.toNat ≤ 90) ∨ (57 < c.toNat ∧ c.toNat < 65) ∨ (48 ≤ c.toNat ∧ c.toNat ≤ 57) ∨ (c.toNat < 48) := by omega
 refine K0.enter Tryz.func78 rfl ?_
 refine ZS 2 ?_
 rcases hc with hc | hc | hc | hc | hc | hc | hc
 ·have hL : Q4 c = true := by unfold Q4; simp; omega
  refine K0.slot 6 (.bool (decide ((((c.toNat : Nat)) : Int) ≥ 97))) (.bool true) Zk (by rw [decide_eq_true Zo]) ?_
  refine ZS 6 ?_
  refine K0.slot 10 (.bool (decide ((((c.toNat : Nat)) : Int) ≤ 122))) (.bool true) Zk (by rw [decide_eq_true Zo]) ?_
  refine ZS 14 ?_
  refine ZR ?_
  refine ZI true ?_
  exact ZX (.bool true) (by rw [T3 hL])
 ·have hL : Q4 c = false := by unfold Q4; simp; omega
  refine K0.slot 6 (.bool (decide ((((c.toNat : Nat)) : Int) ≥ 97))) (.bool true) Zk (by rw [decide_eq_true Zo]) ?_
  refine ZS 6 ?_
  refine K0.slot 10 (.bool (decide ((((c.toNat : Nat)) : Int) ≤ 122))) (.bool false) Zk (by rw [decide_eq_false Zo]) ?_
  refine ZS 9 ?_
  refine K0.slot 13 (.bool (decide ((((c.toNat : Nat)) : Int) ≥ 65))) (.bool true) Zk (by rw [decide_eq_true Zo]) ?_
  refine ZS 14 ?_
  refine K0.slot 18 (.bool (decide ((((c.toNat : Nat)) : Int) ≤ 90))) (.bool false) Zk (by rw [decide_eq_false Zo]) ?_
  refine ZS 17 ?_
  refine ZT 21 (.bool (decide ((((c.toNat : Nat)) : Int) ≥ 48))) (.bool true) (by rw [decide_eq_true Zo]) ?_
  refine ZJ (decide ((((c.toNat : Nat)) : Int) ≤ 57)) false Zp ?_
  refine K0.loop (ι := {k : Nat // k ≤ 9 ∧ ∀ j, j < k → R3[j]? ≠ some c}) 38 (fun q => ⟨[(0, .v (.int .u8 c.toNat)), (3, .v (K3 R3)), (4, .v (.int .i64 q.1))], []⟩) (fun _ _ => True) (fun q => 9 - q.1) (⟨0, by omega, by omega⟩) Zk (fun _ => by kernel_rfl) ⟨Zk, Zk, Zk⟩ (fun _ _ => trivial) ?_
  rintro ⟨k, hk, hkd⟩ g
  by_cases hlt : k < 9
  ·
   refine ZR ?_
   refine K0.condr (decide ((k : Int) < 9)) true Zk Zp ?_
   refine ZS 2 ?_
   obtain ⟨b, hb⟩ := sgnL_at hlt
   refine ZA (ixS 9 (K3 R3) k) (.int .u8 b.toNat) (fun w1 hw h => Oc Zk hb) ?_
   by_cases he : b = c
   ·
    refine ZJ ((((b.toNat : Nat) : Int) == ((c.toNat : Nat) : Int))) true (by rw [he]; simp) ?_
    refine K0.leave Zk ?_
    refine ZR ?_
    exact ZX (.bool true) (by rw [sgn_yes (he ▸ hb)])
   ·
    refine ZJ ((((b.toNat : Nat) : Int) == ((c.toNat : Nat) : Int))) false (by rw [beq_eq_false_iff_ne]; intro e; exact he (UInt8.toNat_inj.1 Zo)) ?_
    refine K0.slot 4 (.int .i64 (IntKind.i64.wrap ((k : Int) + 1))) (.int .i64 ((k + 1 : Nat) : Int)) Zk (by rw [Kc hlt Zd]) ?_
    refine K0.next (⟨k + 1, by omega, by intro j hj; by_cases e : j = k; rw [e, hb]; simpa using he; exact hkd j Zo⟩) Zk (by show 9 - (k + 1) < 9 - k; omega) ⟨Zk, Zk, Zk⟩ (fun _ _ => trivial)
  ·
   refine ZR ?_
   refine ZJ (decide ((k : Int) < 9)) false Zp ?_
   refine K0.leave Zk ?_
   refine ZR ?_
   exact ZX (.bool false) (by rw [sgn_no hL fun j hj => hkd j Zo])
 ·have hL : Q4 c = false := by unfold Q4; simp; omega
  refine K0.slot 6 (.bool (decide ((((c.toNat : Nat)) : Int) ≥ 97))) (.bool false) Zk (by rw [decide_eq_false Zo]) ?_
  refine ZS 6 ?_
  refine ZS 9 ?_
  refine K0.slot 13 (.bool (decide ((((c.toNat : Nat)) : Int) ≥ 65))) (.bool true) Zk (by rw [decide_eq_true Zo]) ?_
  refine ZS 14 ?_
  refine K0.slot 18 (.bool (decide ((((c.toNat : Nat)) : Int) ≤ 90))) (.bool false) Zk (by rw [decide_eq_false Zo]) ?_
  refine ZS 17 ?_
  refine ZT 21 (.bool (decide ((((c.toNat : Nat)) : Int) ≥ 48))) (.bool true) (by rw [decide_eq_true Zo]) ?_
  refine ZJ (decide ((((c.toNat : Nat)) : Int) ≤ 57)) false Zp ?_
  refine K0.loop (ι := {k : Nat // k ≤ 9 ∧ ∀ j, j < k → R3[j]? ≠ some c}) 38 (fun q => ⟨[(0, .v (.int .u8 c.toNat)), (3, .v (K3 R3)), (4, .v (.int .i64 q.1))], []⟩) (fun _ _ => True) (fun q => 9 - q.1) (⟨0, by omega, by omega⟩) Zk (fun _ => by kernel_rfl) ⟨Zk, Zk, Zk⟩ (fun _ _ => trivial) ?_
  rintro ⟨k, hk, hkd⟩ g
  by_cases hlt : k < 9
  ·
   refine ZR ?_
   refine K0.condr (decide ((k : Int) < 9)) true Zk Zp ?_
   refine ZS 2 ?_
   obtain ⟨b, hb⟩ := sgnL_at hlt
   refine ZA (ixS 9 (K3 R3) k) (.int .u8 b.toNat) (fun w1 hw h => Oc Zk hb) ?_
   by_cases he : b = c
   ·
    refine ZJ ((((b.toNat : Nat) : Int) == ((c.toNat : Nat) : Int))) true (by rw [he]; simp) ?_
    refine K0.leave Zk ?_
    refine ZR ?_
    exact ZX (.bool true) (by rw [sgn_yes (he ▸ hb)])
   ·
    refine ZJ ((((b.toNat : Nat) : Int) == ((c.toNat : Nat) : Int))) false (by rw [beq_eq_false_iff_ne]; intro e; exact he (UInt8.toNat_inj.1 Zo)) ?_
    refine K0.slot 4 (.int .i64 (IntKind.i64.wrap ((k : Int) + 1))) (.int .i64 ((k + 1 : Nat) : Int)) Zk (by rw [Kc hlt Zd]) ?_
    refine K0.next (⟨k + 1, by omega, by intro j hj; by_cases e : j = k; rw [e, hb]; simpa using he; exact hkd j Zo⟩) Zk (by show 9 - (k + 1) < 9 - k; omega) ⟨Zk, Zk, Zk⟩ (fun _ _ => trivial)
  ·
   refine ZR ?_
   refine ZJ (decide ((k : Int) < 9)) false Zp ?_
   refine K0.leave Zk ?_
   refine ZR ?_
   exact ZX (.bool false) (by rw [sgn_no hL fun j hj => hkd j Zo])
 ·have hL : Q4 c = true := by unfold Q4; simp; omega
  refine K0.slot 6 (.bool (decide ((((c.toNat : Nat)) : Int) ≥ 97))) (.bool false) Zk (by rw [decide_eq_false Zo]) ?_
  refine ZS 6 ?_
  refine ZS 9 ?_
  refine K0.slot 13 (.bool (decide ((((c.toNat : Nat)) : Int) ≥ 65))) (.bool true) Zk (by rw [decide_eq_true Zo]) ?_
  refine ZS 14 ?_
  refine ZT 18 (.bool (decide ((((c.toNat : Nat)) : Int) ≤ 90))) (.bool true) (by rw [decide_eq_true Zo]) ?_
  refine ZI true ?_
  exact ZX (.bool true) (by rw [T3 hL])
 ·have hL : Q4 c = false := by unfold Q4; simp; omega
  refine K0.slot 6 (.bool (decide ((((c.toNat : Nat)) : Int) ≥ 97))) (.bool false) Zk (by rw [decide_eq_false Zo]) ?_
  refine ZS 6 ?_
  refine ZS 9 ?_
  refine K0.slot 13 (.bool (decide ((((c.toNat : Nat)) : Int) ≥ 65))) (.bool false) Zk (by rw [decide_eq_false Zo]) ?_
  refine ZS 14 ?_
  refine ZS 17 ?_
  refine ZT 21 (.bool (decide ((((c.toNat : Nat)) : Int) ≥ 48))) (.bool true) (by rw [decide_eq_true Zo]) ?_
  refine ZJ (decide ((((c.toNat : Nat)) : Int) ≤ 57)) false Zp ?_
  refine K0.loop (ι := {k : Nat // k ≤ 9 ∧ ∀ j, j < k → R3[j]? ≠ some c}) 38 (fun q => ⟨[(0, .v (.int .u8 c.toNat)), (3, .v (K3 R3)), (4, .v (.int .i64 q.1))], []⟩) (fun _ _ => True) (fun q => 9 - q.1) (⟨0, by omega, by omega⟩) Zk (fun _ => by kernel_rfl) ⟨Zk, Zk, Zk⟩ (fun _ _ => trivial) ?_
  rintro ⟨k, hk, hkd⟩ g
  by_cases hlt : k < 9
  ·
   refine ZR ?_
   refine K0.condr (decide ((k : Int) < 9)) true Zk Zp ?_
   refine ZS 2 ?_
   obtain ⟨b, hb⟩ := sgnL_at hlt
   refine ZA (ixS 9 (K3 R3) k) (.int .u8 b.toNat) (fun w1 hw h => Oc Zk hb) ?_
   by_cases he : b = c
   ·
    refine ZJ ((((b.toNat : Nat) : Int) == ((c.toNat : Nat) : Int))) true (by rw [he]; simp) ?_
    refine K0.leave Zk ?_
    refine ZR ?_
    exact ZX (.bool true) (by rw [sgn_yes (he ▸ hb)])
   ·
    refine ZJ ((((b.toNat : Nat) : Int) == ((c.toNat : Nat) : Int))) false (by rw [beq_eq_false_iff_ne]; intro e; exact he (UInt8.toNat_inj.1 Zo)) ?_
    refine K0.slot 4 (.int .i64 (IntKind.i64.wrap ((k : Int) + 1))) (.int .i64 ((k + 1 : Nat) : Int)) Zk (by rw [Kc hlt Zd]) ?_
    refine K0.next (⟨k + 1, by omega, by intro j hj; by_cases e : j = k; rw [e, hb]; simpa using he; exact hkd j Zo⟩) Zk (by show 9 - (k + 1) < 9 - k; omega) ⟨Zk, Zk, Zk⟩ (fun _ _ => trivial)
  ·
   refine ZR ?_
   refine ZJ (decide ((k : Int) < 9)) false Zp ?_
   refine K0.leave Zk ?_
   refine ZR ?_
   exact ZX (.bool false) (by rw [sgn_no hL fun j hj => hkd j Zo])
 ·have hL : Q4 c = true := by unfold Q4; simp; omega
  refine K0.slot 6 (.bool (decide ((((c.toNat : Nat)) : Int) ≥ 97))) (.bool false) Zk (by rw [decide_eq_false Zo]) ?_
  refine ZS 6 ?_
  refine ZS 9 ?_
  refine K0.slot 13 (.bool (decide ((((c.toNat : Nat)) : Int) ≥ 65))) (.bool false) Zk (by rw [decide_eq_false Zo]) ?_
  refine ZS 14 ?_
  refine ZS 17 ?_
  refine ZT 21 (.bool (decide ((((c.toNat : Nat)) : Int) ≥ 48))) (.bool true) (by rw [decide_eq_true Zo]) ?_
  refine ZJ (decide ((((c.toNat : Nat)) : Int) ≤ 57)) true Zp ?_
  exact ZX (.bool true) (by rw [T3 hL])
 ·have hL : Q4 c = false := by unfold Q4; simp; omega
  refine K0.slot 6 (.bool (decide ((((c.toNat : Nat)) : Int) ≥ 97))) (.bool false) Zk (by rw [decide_eq_false Zo]) ?_
  refine ZS 6 ?_
  refine ZS 9 ?_
  refine K0.slot 13 (.bool (decide ((((c.toNat : Nat)) : Int) ≥ 65))) (.bool false) Zk (by rw [decide_eq_false Zo]) ?_
  refine ZS 14 ?_
  refine ZS 17 ?_
  refine ZT 21 (.bool (decide ((((c.toNat : Nat)) : Int) ≥ 48))) (.bool false) (by rw [decide_eq_false Zo]) ?_
  refine ZI false ?_
  refine K0.loop (ι := {k : Nat // k ≤ 9 ∧ ∀ j, j < k → R3[j]? ≠ some c}) 38 (fun q => ⟨[(0, .v (.int .u8 c.toNat)), (3, .v (K3 R3)), (4, .v (.int .i64 q.1))], []⟩) (fun _ _ => True) (fun q => 9 - q.1) (⟨0, by omega, by omega⟩) Zk (fun _ => by kernel_rfl) ⟨Zk, Zk, Zk⟩ (fun _ _ => trivial) ?_
  rintro ⟨k, hk, hkd⟩ g
  by_cases hlt : k < 9
  ·
   refine ZR ?_
   refine K0.condr (decide ((k : Int) < 9)) true Zk Zp ?_
   refine ZS 2 ?_
   obtain ⟨b, hb⟩ := sgnL_at hlt
   refine ZA (ixS 9 (K3 R3) k) (.int .u8 b.toNat) (fun w1 hw h => Oc Zk hb) ?_
   by_cases he : b = c
   ·
    refine ZJ ((((b.toNat : Nat) : Int) == ((c.toNat : Nat) : Int))) true (by rw [he]; simp) ?_
    refine K0.leave Zk ?_
    refine ZR ?_
    exact ZX (.bool true) (by rw [sgn_yes (he ▸ hb)])
   ·
    refine ZJ ((((b.toNat : Nat) : Int) == ((c.toNat : Nat) : Int))) false (by rw [beq_eq_false_iff_ne]; intro e; exact he (UInt8.toNat_inj.1 Zo)) ?_
    refine K0.slot 4 (.int .i64 (IntKind.i64.wrap ((k : Int) + 1))) (.int .i64 ((k + 1 : Nat) : Int)) Zk (by rw [Kc hlt Zd]) ?_
    refine K0.next (⟨k + 1, by omega, by intro j hj; by_cases e : j = k; rw [e, hb]; simpa using he; exact hkd j Zo⟩) Zk (by show 9 - (k + 1) < 9 - k; omega) ⟨Zk, Zk, Zk⟩ (fun _ _ => trivial)
  ·
   refine ZR ?_
   refine ZJ (decide ((k : Int) < 9)) false Zp ?_
   refine K0.leave Zk ?_
   refine ZR ?_
   exact ZX (.bool false) (by rw [sgn_no hL fun j hj => hkd j Zo])
end
def slC (t : TypeId) (s : Value) (kd : IntKind) (i j : Int) : Sem Next := Instr.sliceAt t s (some (.int kd i)) (some (.int kd j)) none >>= fun v => pure (.value v)
section
variable {P : Program} {w : World} {l : List UInt8} {t : TypeId}
theorem run_slice_both (s : ByteArray) (ht : P.underlying t = some .string) (k1 k2 : IntKind) (a b : Int) (h0 : 0 ≤ a) (h1 : a ≤ b) (h2 : b ≤ s.size) :
 (Instr.slice t (.string s) (some (.int k1 a)) (some (.int k2 b)) none).run P w = .ok (.string (s.extract a.toNat b.toNat)) w := by
 simp [Instr.slice, run_underlying ht, Instr.sliceBounds, run_sliceBound, sliced, *, (by omega : 0 ≤ b)]
 rw [run_sliceBound _ _ _ _ _ h0 Zo]
 rfl
theorem run_slC {kd : IntKind} {i j : Nat} (ht : P.underlying t = some .string) (h1 : i ≤ j) (h2 : j ≤ l.length) : (slC t (K3 l) kd i j).run P w = .ok (.value (K3 ((l.take j).drop i))) w := by
 have := run_slice_both (P := P) (w := w) ⟨l.toArray⟩ ht kd kd i j Zo Zo (by show (j : Int) ≤ ((l.length : Nat) : Int); omega)
 simp only [slC, K3, Sem.run_bind, sliceAtS ht] at this ⊢
 simp only [this, Result.andThen_ok, Sem.run_pure, Int.toNat_natCast]
 have e : (⟨l.toArray⟩ : ByteArray).extract i j = ⟨((l.take j).drop i).toArray⟩ := by
  apply ByteArray.ext
  simp [ByteArray.data_extract, List.drop_take]
 rw [e]
theorem Og {kd : IntKind} {i : Nat} {b : UInt8} (ht : P.underlying t = some .string) (h : l[i]? = some b) : (slC t (K3 l) kd i (i + 1 : Nat)).run P w = .ok (.value (K3 [b])) w := by
 obtain ⟨h1, h2⟩ := List.getElem?_eq_some_iff.1 h
 rw [run_slC ht (Nat.le_succ i) h1]
 have : (l.take (i + 1)).drop i = [b] := by
  rw [List.take_add_one, h, List.drop_append_of_le_length Zp]
  simp
 rw [this]
end
theorem Yw {l : List UInt8} {k : Nat} {c : UInt8} (h : l[k]? = some c) : (l.take (k + 1)).flatMap q1 = (l.take k).flatMap q1 ++ q1 c := by
 rw [List.take_add_one, h]; simp
theorem Zf (l : List UInt8) (k : Nat) : ((l.take k).flatMap q1).length ≤ 3 * l.length := by
 have := (flat_len (l.take k)).2
 have h2 := List.length_take_le k l
 have h3 : (l.take k).length ≤ l.length := by rw [List.length_take]; omega
 omega
theorem Yy {l : List UInt8} {k : Nat} {c : UInt8} (h : l[k]? = some c) : l.drop k = c :: l.drop (k + 1) := by
 obtain ⟨h1, h2⟩ := List.getElem?_eq_some_iff.1 h
 rw [List.drop_eq_getElem_cons h1, h2]
section
variable {l p : List UInt8} {k : Nat} {a b c : UInt8}
theorem unq_one (h : unqS l = (unqS (l.drop k)).map (p ++ ·)) (hc : l[k]? = some c) (hp : Ly c = true) : unqS l = (unqS (l.drop (k + 1))).map ((p ++ [c]) ++ ·) := by
 rw [h, Yy hc, unqS_plain hp, Option.map_map]; congr 1; funext q; simp
theorem unq_bad (h : unqS l = (unqS (l.drop k)).map (p ++ ·)) (hc : l[k]? = some c) (hp : Ly c = false) (h2 : c ≠ 42) : unqS l = none := by
 rw [h, Yy hc, unqS_bad hp h2]; rfl
theorem unq_short (h : unqS l = (unqS (l.drop k)).map (p ++ ·)) (hc : l[k]? = some 42) (h2 : l.length ≤ k + 2) : unqS l = none := by
 rw [h, Yy hc, unqS_short (by rw [List.length_drop]; have := (List.getElem?_eq_some_iff.1 hc).1; omega)]; rfl
theorem unq_hex (h : unqS l = (unqS (l.drop k)).map (p ++ ·)) (hc : l[k]? = some 42) (ha : l[k + 1]? = some a) (hb : l[k + 2]? = some b) :
 (Lx a < 0 ∨ Lx b < 0 ∨ Ly (N8 a b) = true → unqS l = none) ∧ (¬ (Lx a < 0 ∨ Lx b < 0 ∨ Ly (N8 a b) = true) → unqS l = (unqS (l.drop (k + 3))).map ((p ++ [N8 a b]) ++ ·)) := by
 rw [Yy hc, Yy ha, Yy hb, unqS_mark] at h
 constructor
 ·intro hv; rw [h, if_pos hv]; rfl
 ·intro hv; rw [h, if_neg hv, Option.map_map]; congr 1; funext q; simp
theorem drop_end (h : l.length ≤ k) : l.drop k = [] := List.drop_of_length_le h
theorem unq_end (h : unqS l = (unqS (l.drop k)).map (p ++ ·)) (h2 : l.length ≤ k) : unqS l = some p := by
 rw [h, drop_end h2, unqS]; show some (p ++ []) = _; rw [List.append_nil]
theorem Ug (h1 : l ≠ [42]) (h : unqS l = none) : Zu l = none := by unfold Zu; rw [if_neg h1, h]
theorem unqL_nil (h1 : l ≠ [42]) (h : unqS l = some []) : Zu l = none := by unfold Zu; rw [if_neg h1, h]; rfl
theorem unqL_some (h1 : l ≠ [42]) (h : unqS l = some p) (h2 : p ≠ []) : Zu l = some p := by unfold Zu; rw [if_neg h1, h]; exact if_neg h2
end
def unqV : Option (List UInt8) → Value
 | some p => .tuple #[K3 p, .int .i64 0]
 | none => .tuple #[K3 [], .int .i64 3]
theorem byteH_nat (a b : UInt8) (ha : 0 ≤ Lx a) (hb : 0 ≤ Lx b) : IntKind.u8.wrap (bits .or .i64 (IntKind.i64.wrap (Lx a * 2 ^ 4)) (Lx b)) = ((N8 a b).toNat : Int) := byte_or ⟨ha, (Uf a).2⟩ ⟨hb, (Uf b).2⟩
theorem u8_quo1 (b : UInt8) : IntKind.u8.wrap (IntKind.u8.wrap (((b.toNat : Nat) : Int).tdiv 16) + 1) = ((b.toNat / 16 + 1 : Nat) : Int) := by
 have h : ∀ n : Fin 256, IntKind.u8.wrap (IntKind.u8.wrap (((n.val : Nat) : Int).tdiv 16) + 1) = ((n.val / 16 + 1 : Nat) : Int) := by decide +kernel
 exact h ⟨b.toNat, by have := b.toNat_lt; omega⟩
theorem u8_rem1 (b : UInt8) : IntKind.u8.wrap (((b.toNat : Nat) : Int).tmod 16 + 1) = ((b.toNat % 16 + 1 : Nat) : Int) := by
 have h : ∀ n : Fin 256, IntKind.u8.wrap (((n.val : Nat) : Int).tmod 16 + 1) = ((n.val % 16 + 1 : Nat) : Int) := by decide +kernel
 exact h ⟨b.toNat, by have := b.toNat_lt; omega⟩
section
variable {w : World} {l : List UInt8}
theorem Yq {c : UInt8} {B : Bool} (h : Ly c = B) : Calls Tryz.prog 63 #[.int .u8 c.toNat] w (K5 w (fun _ : Unit => .bool B) fun _ _ => True) := h ▸ plain_m c
theorem stands_v {c : UInt8} {B : Bool} (h : Ly c = B) : Calls Tryz.prog 78 #[.int .u8 c.toNat] w (K5 w (fun _ : Unit => .bool B) fun _ _ => True) := h ▸ stands_m c
theorem quote_m (hl : l.length ≤ 10000000) : Calls Tryz.prog 29 #[K3 l] w (K5 w (fun _ : Unit => K3 (Rs l)) fun _ _ => True) := by
 refine K0.enter Tryz.func29 rfl ?_
 refine ZS 1 ?_
 by_cases h0 : l = []
 ·subst h0
  refine ZA (S3 .eql 9 (.tmp 6) (.const (.string ⟨#[]⟩)) (K3 []) (K3 [])) (.bool true) (fun w1 hw h => Pq Zs) ?_
  refine ZI true ?_
  exact ZW (.string ⟨#[42]⟩)
 have hq : Rs l = l.flatMap q1 := if_neg h0
 refine ZA (S3 .eql 9 (.tmp 6) (.const (.string ⟨#[]⟩)) (K3 l) (K3 [])) (.bool false) (fun w1 hw h => Pq (by simpa using h0)) ?_
 refine K0.cond false Zk ?_
 refine ZS 0 ?_
 refine K0.make (allS 94) (ptr) (fun g u => BAt w g [] u) Zk (fun w1 hw h => make_bld hw.size) (fun g => ?_)
 refine ZR ?_
 refine K0.loop (ι := {q : Nat // q ≤ l.length}) 31 (fun q => ⟨[(0, .v (K3 l)), (3, .v (ptr g)), (9, .v (.int .i64 l.length)), (10, .v (.int .i64 q.1))], []⟩) (fun q u => BAt w g ((l.take q.1).flatMap q1) u) (fun q => l.length - q.1) (⟨0, Nat.zero_le _⟩) Zk (fun _ => by kernel_rfl) ⟨Zk, Zk, Zk⟩ (fun u h => h.2) ?_
 rintro ⟨k, hk⟩ gg
 by_cases hlt : k < l.length
 ·
  refine ZR ?_
  refine K0.condr (decide ((k : Int) < (l.length : Int))) true Zk Zp ?_
  refine ZS 2 ?_
  obtain ⟨c, hc⟩ : ∃ c, l[k]? = some c := ⟨_, List.getElem?_eq_getElem hlt⟩
  have hb := Zf l k
  refine ZA (ixS 9 (K3 l) k) (.int .u8 c.toNat) (fun w1 hw h => Oc Zk hc) ?_
  cases hp : Ly c
  ·have e1 := q1_not hp
   refine ZC (fun w1 hw h => Yq hp) fun u => ?_
   refine ZI false ?_
   refine K0.callB (val := fun _ => .nilIface) (Φ' := fun (_ : Unit) u => BAt w g ((l.take k).flatMap q1 ++ [42]) u) (fun w1 hw h => wbyte_m hw h.1 42 (show ((l.take k).flatMap q1).length ≤ 100000000 from by omega)) Zk Zk Zk (fun _ => ?_)
   refine ZS 2 ?_
   refine K0.slot 22 (.int .u8 (((c.toNat : Nat) : Int).fdiv (2 ^ 4))) (.int .u8 ((c.toNat / 16 : Nat) : Int)) Zk (by rw [u8_shr]) ?_
   refine ZA (ixK 9 (K3 hexT) .u8 (c.toNat / 16 : Nat)) (.int .u8 (O7 (c.toNat / 16)).toNat) (fun w1 hw h => Yk Zk (Tw _ (hex_lt c).1)) ?_
   refine K0.callB (val := fun _ => .nilIface) (Φ' := fun (_ : Unit) u => BAt w g (((l.take k).flatMap q1 ++ [42]) ++ [O7 (c.toNat / 16)]) u) (fun w1 hw h => wbyte_m hw h _ (by simp only [List.length_append, List.length_singleton]; omega)) Zk Zk Zk (fun _ => ?_)
   refine ZS 2 ?_
   refine K0.slot 26 (.int .u8 (bits .and .u8 ((c.toNat : Nat) : Int) 15)) (.int .u8 ((c.toNat % 16 : Nat) : Int)) Zk (by rw [u8_and]) ?_
   refine ZA (ixK 9 (K3 hexT) .u8 (c.toNat % 16 : Nat)) (.int .u8 (O7 (c.toNat % 16)).toNat) (fun w1 hw h => Yk Zk (Tw _ (hex_lt c).2)) ?_
   refine K0.callB (val := fun _ => .nilIface) (Φ' := fun (_ : Unit) u => BAt w g ((((l.take k).flatMap q1 ++ [42]) ++ [O7 (c.toNat / 16)]) ++ [O7 (c.toNat % 16)]) u) (fun w1 hw h => wbyte_m hw h _ (by simp only [List.length_append, List.length_singleton]; omega)) Zk Zk Zk (fun _ => ?_)
   refine ZR ?_
   refine K0.slot 10 (.int .i64 (IntKind.i64.wrap ((k : Int) + 1))) (.int .i64 ((k + 1 : Nat) : Int)) Zk (by rw [Kc hlt Zo]) ?_
   refine K0.next (⟨k + 1, by omega⟩) Zk (by show l.length - (k + 1) < l.length - k; omega) ⟨Zk, Zk, Zk⟩ (fun _ h => by show BAt w g ((l.take (k + 1)).flatMap q1) _; rw [Yw hc, e1]; simpa [enc2] using h)
  ·have e1 := q1_plain hp
   refine ZC (fun w1 hw h => Yq hp) fun u => ?_
   refine ZI true ?_
   refine K0.callB (val := fun _ => .nilIface) (Φ' := fun (_ : Unit) u => BAt w g ((l.take k).flatMap q1 ++ [c]) u) (fun w1 hw h => wbyte_m hw h.1 c (show ((l.take k).flatMap q1).length ≤ 100000000 from by omega)) Zk Zk Zk (fun _ => ?_)
   refine ZR ?_
   refine K0.slot 10 (.int .i64 (IntKind.i64.wrap ((k : Int) + 1))) (.int .i64 ((k + 1 : Nat) : Int)) Zk (by rw [Kc hlt Zo]) ?_
   refine K0.next (⟨k + 1, by omega⟩) Zk (by show l.length - (k + 1) < l.length - k; omega) ⟨Zk, Zk, Zk⟩ (fun _ h => by show BAt w g ((l.take (k + 1)).flatMap q1) _; rw [Yw hc, e1]; exact h)
 ·
  refine ZR ?_
  refine ZJ (decide ((k : Int) < (l.length : Int))) false Zp ?_
  have hfull : l.take k = l := List.take_of_length_le Zo
  refine K0.leave Zk ?_
  refine ZR ?_
  refine K0.callB (val := fun _ => K3 (l.flatMap q1)) (Φ' := fun (_ : Unit) u => True) (fun w1 hw h => bstr_m hw (by rw [← hfull]; exact h)) Zk Zk Zk (fun _ => ?_)
  refine ZR ?_
  exact ZX (K3 (l.flatMap q1)) (by rw [hq])
theorem rquote_m (hl : l.length ≤ 10000000) : Calls Tryz.prog 43 #[K3 l] w (K5 w (fun _ : Unit => K3 (Rs l)) fun _ _ => True) := by
 refine K0.enter Tryz.func43 rfl ?_
 refine ZS 1 ?_
 by_cases h0 : l = []
 ·subst h0
  refine ZA (S3 .eql 9 (.tmp 7) (.const (.string ⟨#[]⟩)) (K3 []) (K3 [])) (.bool true) (fun w1 hw h => Pq Zs) ?_
  refine ZI true ?_
  exact ZW (.string ⟨#[42]⟩)
 have hq : Rs l = l.flatMap q1 := if_neg h0
 refine ZA (S3 .eql 9 (.tmp 7) (.const (.string ⟨#[]⟩)) (K3 l) (K3 [])) (.bool false) (fun w1 hw h => Pq (by simpa using h0)) ?_
 refine ZI false ?_
 refine K0.loop (ι := {q : Nat // q ≤ l.length}) 46 (fun q => ⟨[(0, .v (K3 l)), (3, .v (K3 hexT)), (4, .v (K3 ((l.take q.1).flatMap q1))), (5, .v (.int .i64 q.1))], []⟩) (fun q u => True) (fun q => l.length - q.1) (⟨0, Nat.zero_le _⟩) Zk (fun _ => by kernel_rfl) ⟨Zk, Zk, Zk⟩ (fun u h => trivial) ?_
 rintro ⟨k, hk⟩ gg
 by_cases hlt : k < l.length
 ·
  refine ZR ?_
  refine K0.condr (decide ((k : Int) < (l.length : Int))) true Zk Zp ?_
  refine ZS 2 ?_
  obtain ⟨c, hc⟩ : ∃ c, l[k]? = some c := ⟨_, List.getElem?_eq_getElem hlt⟩
  have hb := Zf l k
  refine ZA (ixS 9 (K3 l) k) (.int .u8 c.toNat) (fun w1 hw h => Oc Zk hc) ?_
  cases hp : Ly c
  ·have e1 := q1_not hp
   refine ZC (fun w1 hw h => stands_v hp) fun u => ?_
   refine K0.cond false Zk ?_
   refine ZS 7 ?_
   refine K0.slot 30 (.int .u8 (IntKind.u8.wrap (((c.toNat : Nat) : Int).tdiv 16))) (.int .u8 ((c.toNat / 16 : Nat) : Int)) Zk (by rw [u8_quo]) ?_
   refine K0.slot 33 (.int .u8 (IntKind.u8.wrap (IntKind.u8.wrap (((c.toNat : Nat) : Int).tdiv 16) + 1))) (.int .u8 ((c.toNat / 16 + 1 : Nat) : Int)) Zk (by rw [u8_quo1]) ?_
   refine K0.askAt 7 (slC 9 (K3 hexT) .u8 (c.toNat / 16 : Nat) (c.toNat / 16 + 1 : Nat)) (K3 [O7 (c.toNat / 16)]) Zk (fun w1 hw h => Og Zk (Tw _ (hex_lt c).1)) ?_
   refine ZS 8 ?_
   refine K0.askAt 8 (S3 .add 9 (.const (.string ⟨#[42]⟩)) (.tmp 34) (K3 [42]) (K3 [O7 (c.toNat / 16)])) (K3 ([42] ++ [O7 (c.toNat / 16)])) Zk (fun w1 hw h => Ld Zs) ?_
   refine ZS 15 ?_
   refine K0.slot 38 (.int .u8 (((c.toNat : Nat) : Int).tmod 16)) (.int .u8 ((c.toNat % 16 : Nat) : Int)) Zk (by rw [u8_rem]) ?_
   refine K0.slot 41 (.int .u8 (IntKind.u8.wrap (((c.toNat : Nat) : Int).tmod 16 + 1))) (.int .u8 ((c.toNat % 16 + 1 : Nat) : Int)) Zk (by rw [u8_rem1]) ?_
   refine K0.askAt 15 (slC 9 (K3 hexT) .u8 (c.toNat % 16 : Nat) (c.toNat % 16 + 1 : Nat)) (K3 [O7 (c.toNat % 16)]) Zk (fun w1 hw h => Og Zk (Tw _ (hex_lt c).2)) ?_
   refine ZS 16 ?_
   refine K0.askAt 16 (S3 .add 9 (.tmp 35) (.tmp 42) (K3 ([42] ++ [O7 (c.toNat / 16)])) (K3 [O7 (c.toNat % 16)])) (K3 (q1 c)) Zk (fun w1 hw h => by rw [Ld Zs, e1]; rfl) ?_
   refine ZS 17 ?_
   refine ZB 17 (S3 .add 9 (.tmp 27) (.tmp 43) (K3 ((l.take k).flatMap q1)) (K3 (q1 c))) (K3 ((l.take (k + 1)).flatMap q1)) (fun w1 hw h => by rw [Ld (by have := (q1_len c).2; omega), Yw hc]) ?_
   refine K0.slot 5 (.int .i64 (IntKind.i64.wrap ((k : Int) + 1))) (.int .i64 ((k + 1 : Nat) : Int)) Zk (by rw [Kc hlt Zo]) ?_
   refine K0.next (⟨k + 1, by omega⟩) Zk (by show l.length - (k + 1) < l.length - k; omega) ⟨Zk, Zk, Zk⟩ (fun _ h => trivial)
  ·have e1 := q1_plain hp
   refine ZC (fun w1 hw h => stands_v hp) fun u => ?_
   refine K0.cond true Zk ?_
   refine ZS 5 ?_
   refine K0.slot 24 (.int .i64 (IntKind.i64.wrap ((k : Int) + 1))) (.int .i64 ((k + 1 : Nat) : Int)) Zk (by rw [Kc hlt Zo]) ?_
   refine K0.ask (slC 9 (K3 l) .i64 k (k + 1 : Nat)) (K3 [c]) Zk (fun w1 hw h => Og Zk hc) ?_
   refine ZS 6 ?_
   refine ZA (S3 .add 9 (.tmp 20) (.tmp 25) (K3 ((l.take k).flatMap q1)) (K3 [c])) (K3 ((l.take (k + 1)).flatMap q1)) (fun w1 hw h => by rw [Ld (by simp only [List.length_singleton]; omega), Yw hc, e1]) ?_
   refine K0.slot 5 (.int .i64 (IntKind.i64.wrap ((k : Int) + 1))) (.int .i64 ((k + 1 : Nat) : Int)) Zk (by rw [Kc hlt Zo]) ?_
   refine K0.next (⟨k + 1, by omega⟩) Zk (by show l.length - (k + 1) < l.length - k; omega) ⟨Zk, Zk, Zk⟩ (fun _ h => trivial)
 ·
  refine ZR ?_
  refine ZJ (decide ((k : Int) < (l.length : Int))) false Zp ?_
  have hfull : l.take k = l := List.take_of_length_le Zo
  refine K0.leave Zk ?_
  refine ZR ?_
  exact ZX (K3 ((l.take k).flatMap q1)) (by rw [hq, hfull])
end
end Go.Proofs.YtdeepdckmhpldaaGreatDoor
