/-
 Paints as text: the reader.
-/
import Derived.Test.YtdeepdckmhpldaaGreatDoorYA
namespace Go.Proofs.YtdeepdckmhpldaaGreatDoor
set_option maxRecDepth 100000
set_option maxHeartbeats 8000000
set_option linter.unusedVariables false
set_option linter.unusedSimpArgs false
open Go.RowKit
def dblk (A : Option Addr) (c : Nat) : List Nat := match A with | some p => if c = 0 then [] else [p.block] | none => []
def qblk (r : RV) : List Nat := dblk r.a.A r.a.c ++ dblk r.b.A r.b.c
def QF (N : Nat) (r : RV) (q : Rat) (u : World) : Prop := Ob r q 125 u ∧ ∀ b ∈ qblk r, N ≤ b
structure AF (N : Nat) (t : TV) (T : Zm) (u : World) : Prop where
 a : QF N t.a T.a u
 b : QF N t.b T.b u
 c : QF N t.c T.c u
 d : QF N t.d T.d u
 e : QF N t.e T.e u
 f : QF N t.f T.f u
def Zy (x : Int × Co) : List Value := [.int .i64 x.1, .int .u8 (x.2.1.toNat : Int), .int .u8 (x.2.2.1.toNat : Int), .int .u8 (x.2.2.2.1.toNat : Int), .int .u8 (x.2.2.2.2.toNat : Int)]
def stC (l : List (Int × Co)) : List Value := l.flatMap Zy
def Pu (c : Co) : List Value := [.int .u8 (c.1.toNat : Int), .int .u8 (c.2.1.toNat : Int), .int .u8 (c.2.2.1.toNat : Int), .int .u8 (c.2.2.2.toNat : Int)]
def pxC (l : List Co) : List Value := l.flatMap Pu
@[reducible] def imV (m : Im) (y : Option Addr × Nat) : Value := .agg #[.int .i64 m.w, .int .i64 m.h, .slice y.1 m.px.length y.2]
structure PM where
 sA : Option Addr
 sc : Nat
 xA : Option Addr
 xc : Nat
 t : TV
@[reducible] def pnV (P : Pn) (q : PM) : Value := .agg (#[.int .i64 P.kind, .int .u8 (P.co.1.toNat : Int), .int .u8 (P.co.2.1.toNat : Int), .int .u8 (P.co.2.2.1.toNat : Int), .int .u8 (P.co.2.2.2.toNat : Int), .int .i64 P.p0x, .int .i64 P.p0y, .int .i64 P.p1x, .int .i64 P.p1y, .int .i64 P.rad, .slice q.sA P.stops.length q.sc, .int .i64 P.spread, .int .i64 P.im.w, .int .i64 P.im.h, .slice q.xA P.im.px.length q.xc, .int .i64 P.samp] ++ q.t.cl.toArray)
def tv0 : TV := ⟨RV0, RV0, RV0, RV0, RV0, RV0⟩
def pm0 : PM := ⟨none, 0, none, 0, tv0⟩
structure PAt (N : Nat) (P : Pn) (q : PM) (u : World) : Prop where
 st : K7 u N 133 5 q.sA P.stops.length q.sc (stC P.stops)
 px : K7 u N 204 4 q.xA P.im.px.length q.xc (pxC P.im.px)
 tr : (P.kind < 2 ∧ P.T = Qc ∧ q.t = tv0) ∨ (2 ≤ P.kind ∧ AF N q.t P.T u)
section
variable {P : Program} {W w : World}
theorem K0.enterRec {f : FuncId} {fn : Func} {args : Array Value} {u u0 : FrameMode} {rv : Value} {R : Ending → World → Prop} {id d0 d1 : Nat} {o0 o1 : Oper} {rest : Code}
 (hf : P.funcs[f]? = some fn) (hb : fn.body = some (.seq (.region id #[o0, o1] false) rest))
 (h0 : ∀ (ρ : Operand → Value) (w : World), (execOp ρ o0).run P w = .ok .recover w) (hg0 : o0.guard = none) (hd0 : o0.dst = some d0)
 (h1 : o1.op = .assign (.tmp d0)) (hg1 : o1.guard = none) (hd1 : o1.dst = some d1) (hs0 : d0 < args.size + (fn.ntmps - args.size))
 (hrec : ∀ (c₀ : Frame) (cs : List Frame), c₀.mode = u → match recoverD (c₀ :: cs) with
  | some (v, cs') => v = rv ∧ cs' = { c₀ with mode := u0 } :: cs
  | none => rv = .nilIface ∧ u0 = u)
 (hW : Below W.heap.size W w)
 (H : K0 P [] W (bodyPost P fn R) (fun u => w.heap.size ≤ u.heap.size ∧ ∀ b, W.heap.size ≤ b → b < w.heap.size → u.heap[b]? = w.heap[b]?) ⟨.code rest, [], ⟨((((args.toList ++ List.replicate (fn.ntmps - args.size) undef).set d0 rv).set d1 rv)).map .v, fun _ => none⟩⟩) :
 CallsD P f args u w fun e u' w' => u' = u0 ∧ R e w' := by
 refine callsD_of_wpS hf hb (fun c₀ cs hu => ?_)
 refine wpS_seq (wpS_region ?_)
 have key : ∀ (cs' : List Frame), cs' = { c₀ with mode := u0 } :: cs → rest.wpS P (bodyPostS P fn c₀ cs (fun e u' w' => u' = u0 ∧ R e w')) ⟨((args ++ Array.replicate (fn.ntmps - args.size) undef).setIfInBounds d0 rv).setIfInBounds d1 rv, []⟩ cs' w := fun cs' hcs => by
  refine wpS_of_wp ?_
  have hw := H.get ⟨fun x hx k hk => by simp only [List.mem_map] at hx; obtain ⟨q, _, rfl⟩ := hx; simp [AV.ids] at hk, fun j cs hj => by cases hj⟩ (fun _ => 0) ⟨((args ++ Array.replicate (fn.ntmps - args.size) undef).setIfInBounds d0 rv).setIfInBounds d1 rv, []⟩ w
   ⟨by simp [Function.comp_def, AV.conc], rfl, hW, fun k cs hk => (by cases hk), fun k k' hk => (by cases hk), fun w' hw => ⟨hw.size, fun b h1 h2 => hw.heap b h1 h2 (fun k hk => by cases hk)⟩⟩
  refine wp_mono hw fun e a' w' hq => ?_
  cases e with
  | normal => obtain ⟨k1, v, k2, k3⟩ := hq; exact ⟨k1, u0, hcs, v, k2, rfl, k3⟩
  | ret => obtain ⟨k1, v, k2, k3⟩ := hq; exact ⟨k1, u0, hcs, v, k2, rfl, k3⟩
  | panic ch => obtain ⟨k1, k3⟩ := hq; exact ⟨k1, u0, hcs, rfl, k3⟩
  | outgrown => exact ⟨u0, rfl, hq⟩
  | exit _ => exact hq
  | goto _ => exact hq
 have e1 : ∀ (ρ : Operand → Value) (w : World), (execOp ρ o1).run P w = .ok (.value (ρ (.tmp d0))) w := fun ρ w => by unfold execOp; rw [h1]; rfl
 have hev : Act.eval ⟨(args ++ Array.replicate (fn.ntmps - args.size) undef).setIfInBounds d0 rv, []⟩ (.tmp d0) = rv := by
  simp only [Act.eval, Array.getD_eq_getD_getElem?]
  rw [Array.getElem?_setIfInBounds_self_of_lt (by simpa using hs0)]; rfl
 rw [show List.range (#[o0, o1] : Array Oper).size = [0, 1] from rfl]
 have hrec' := hrec c₀ cs hu
 simp only [wpOpsS, show (#[o0, o1] : Array Oper)[0]? = some o0 from rfl, show (#[o0, o1] : Array Oper)[1]? = some o1 from rfl, Region.wanted, hg0, hg1, if_true, h0, hd0, hd1, Act.put]
 cases hr : recoverD (c₀ :: cs) with
 | none =>
  rw [hr] at hrec'
  obtain ⟨rfl, rfl⟩ := hrec'
  simp only [e1, hev]
  have hc0 : (c₀ :: cs) = { c₀ with mode := u0 } :: cs := by rw [← hu]
  simp only [Oper.upon_value, hd1, Act.put, Exit.thenS]
  exact key _ hc0
 | some p =>
  rw [hr] at hrec'
  obtain ⟨v, cs'⟩ := p
  obtain ⟨rfl, hcs⟩ := hrec'
  simp only [e1, hev, Oper.upon_value, hd1, Act.put, Exit.thenS]
  exact key _ hcs
end
def pnZ : List Value := [.int .i64 0, .int .u8 0, .int .u8 0, .int .u8 0, .int .u8 0, .int .i64 0, .int .i64 0, .int .i64 0, .int .i64 0, .int .i64 0, .slice none 0 0, .int .i64 0, .int .i64 0, .int .i64 0, .slice none 0 0, .int .i64 0] ++ tv0.cl
section
variable {w W : World} {gp go : Nat} {cs : List Value} {b : Bool}
def Stay (W w : World) (u : World) : Prop := w.heap.size ≤ u.heap.size ∧ ∀ b, W.heap.size ≤ b → b < w.heap.size → u.heap[b]? = w.heap[b]?
theorem read1_r (hW : Below W.heap.size W w) : CallsD Tryz.prog 59 #[.pointer (some ⟨gp, 0, none⟩), .pointer (some ⟨go, 0, none⟩)] .returning w (fun e u' w' => u' = .returning ∧ (e = .returned (.tuple #[]) ∧ Below W.heap.size W w' ∧ Stay W w w')) := by
 refine K0.enterRec (rv := .nilIface) Tryz.func59 rfl (fun ρ w => rfl) rfl rfl rfl rfl rfl (by show 5 < 2 + (17 - 2); decide) (fun c₀ cs hu => ?_) hW ?_
 ·simp [recoverD, hu]
 refine ZR ?_
 refine ZI true ?_
 refine ZV (.tuple #[]) (fun w1 hw h => ⟨rfl, hw, h w1 (Nat.le_refl _) fun _ _ _ => rfl⟩)
end
def cells2 (fn : Func) (σ : AS) : Option ((Nat × TypeId) × (Nat × TypeId)) :=
 match fn.results.toList with
 | [.cell t ty, .cell t2 ty2] => match σ.tmps.getD t (.v undef), σ.tmps.getD t2 (.v undef) with
  | .v (.pointer (some ⟨g, 0, none⟩)), .v (.pointer (some ⟨g2, 0, none⟩)) => some ((g, ty), (g2, ty2))
  | _, _ => none
 | _ => none
theorem cells2_ok {P : Program} {Δ : List Deferred} {W : World} {Φ : World → Prop} {fn : Func} {σ : AS} {β : Nat → Nat} {a : Act} {w w' : World} {g g2 : Nat} {ty ty2 : TypeId} {v v2 : Value} (hc : cells2 fn σ = some ((g, ty), (g2, ty2))) (hr : Q1 Δ W β σ Φ a w)
 (h1 : (loadVar ty ⟨g, 0, none⟩).run P w' = .ok v w') (h2 : (loadVar ty2 ⟨g2, 0, none⟩).run P w' = .ok v2 w') : (results fn a.tmps).run P w' = .ok (.tuple #[v, v2]) w' := by
 unfold cells2 at hc
 split at hc
 ·rename_i t ty' t2 ty2' hres
  split at hc
  ·rename_i gg gg2 e1 e2
   simp only [Option.some.injEq, Prod.mk.injEq] at hc
   obtain ⟨⟨rfl, rfl⟩, rfl, rfl⟩ := hc
   have hg1 : a.tmps.getD t undef = .pointer (some ⟨gg, 0, none⟩) := by
    have := hr.eval (.tmp t)
    simp only [Act.eval, AS.eval, e1, AV.conc] at this
    exact this
   have hg2 : a.tmps.getD t2 undef = .pointer (some ⟨gg2, 0, none⟩) := by
    have := hr.eval (.tmp t2)
    simp only [Act.eval, AS.eval, e2, AV.conc] at this
    exact this
   rw [Tr, Sem.run_bind, Array.mapM_eq_mapM_toList, Sem.run_map, hres, List.mapM_cons, Sem.run_bind]
   simp only [Xp, hg1, hg2, asAddr, Sem.run_bind, Sem.run_pure, Result.andThen_ok, h1, h2, List.mapM_nil, List.mapM_cons]
   rfl
  ·cases hc
 ·cases hc
section
variable {P : Program} {W : World} {Φ : World → Prop} {c : O5} {fn : Func} {R : Ending → World → Prop} {fv : Fn} {cap dargs : Array Value} {f : FuncId} {args : Array Value}
def retFoc (c : O5) : Bool := match c.foc, c.k with | .out .ret, [] => true | _, _ => false
theorem K0.retD2 (g g2 : Nat) (ty ty2 : TypeId) (hf : retFoc c = true) (hc : cells2 fn c.st = some ((g, ty), (g2, ty2))) (hi : ∀ w, (invoke (.fn fv cap) dargs).run P w = .ok (.enter f args) w)
 (h : ∀ w, Below W.heap.size W w → Φ w → CallsD P f args .returning w fun e u w' => u = .returning ∧ ∃ x v v2, e = .returned x ∧ (loadVar ty ⟨g, 0, none⟩).run P w' = .ok v w' ∧ (loadVar ty2 ⟨g2, 0, none⟩).run P w' = .ok v2 w' ∧ R (.returned (.tuple #[v, v2])) w') :
 K0 P [⟨.fn fv cap, dargs⟩] W (bodyPostD P fn R) Φ c := by
 obtain ⟨foc, k, σ⟩ := c
 refine ⟨?_⟩
 unfold retFoc at hf
 split at hf
 ·rename_i h1 h2
  simp only at h1 h2
  subst h1; subst h2
  intro hwf β a w hr
  show Leaves P fn a.tmps R a.defers .returning w
  rw [hr.defers]
  refine leaves_cons Zs (hi w) ((h w hr.bel hr.phi).mono fun e u' w' he => ?_)
  obtain ⟨rfl, x, v, v2, rfl, k1, k2, hR⟩ := he
  exact ⟨_, cells2_ok hc hr k1 k2, hR⟩
 ·cases hf
end
theorem lonebut_of {ops : Array Oper} {o : Oper} {σ : AS} (h : (List.range ops.size).all (fun i => match ops[i]? with
 | some o' => (o'.dst != o.dst) || (List.range ops.size).all (fun k => Nat.beq k i || (Oi ops i ops.size).getD k false || (Oi ops k ops.size).getD i false || (match ops[k]? with | some ok => (frozenB ops ok && !(σ.plain ok.op)) || isMv ok.op | none => false))
 | none => true) = true) : LoneBut ops o σ := by
 intro i hi listed j hcl hri hrj
 have hlt : i < ops.size := (Array.getElem?_eq_some_iff.1 hi).1
 have h1 := List.all_eq_true.1 h i (List.mem_range.2 hlt)
 simp only [hi, bne_self_eq_false, Bool.false_or] at h1
 obtain ⟨hiu, oi, hoi, halli⟩ := mem_ready.1 hri
 obtain ⟨hju, oj, hoj, hallj⟩ := mem_ready.1 hrj
 have hltj : j < ops.size := (Array.getElem?_eq_some_iff.1 hoj).1
 have h2 := List.all_eq_true.1 h1 j (List.mem_range.2 hltj)
 simp only [Bool.or_eq_true, Nat.beq_eq, hoj, Bool.and_eq_true, Bool.not_eq_true'] at h2
 rcases h2 with ((h2 | h2) | h2) | h2
 ·exact .inl h2
 ·obtain ⟨om, hom, hn⟩ := Px hcl hiu _ _ h2
  rw [hoj] at hom; injection hom with hom; subst hom
  exact absurd hallj hn
 ·obtain ⟨om, hom, hn⟩ := Px hcl hju _ _ h2
  rw [hoi] at hom; injection hom with hom; subst hom
  exact absurd halli hn
 ·exact .inr ⟨oj, hoj, h2⟩
def butFoc (c : O5) : Bool := match c.foc with
 | .any ops (_ + 1) listed => match Region.ready .any ops listed with
  | [i] => match ops[i]? with
   | some o => (List.range ops.size).all (fun i => match ops[i]? with
    | some o' => (o'.dst != o.dst) || (List.range ops.size).all (fun k => Nat.beq k i || (Oi ops i ops.size).getD k false || (Oi ops k ops.size).getD i false || (match ops[k]? with | some ok => (frozenB ops ok && !(c.st.plain ok.op)) || isMv ok.op | none => false))
    | none => true)
   | none => false
  | _ => false
 | _ => false
theorem lone_of2 {ops : Array Oper} {o : Oper} (h : (List.range ops.size).all (fun i => match ops[i]? with
 | some o' => (o'.dst != o.dst) || (o'.after.size != o.after.size) || (List.range ops.size).all (fun k => Nat.beq k i || (Oi ops i ops.size).getD k false || (Oi ops k ops.size).getD i false)
 | none => true) = true) : LoneOp ops o := by
 intro i hi listed j hcl hri hrj
 have hlt : i < ops.size := (Array.getElem?_eq_some_iff.1 hi).1
 have h1 := List.all_eq_true.1 h i (List.mem_range.2 hlt)
 simp only [hi, bne_self_eq_false, Bool.false_or] at h1
 obtain ⟨hiu, oi, hoi, halli⟩ := mem_ready.1 hri
 obtain ⟨hju, oj, hoj, hallj⟩ := mem_ready.1 hrj
 have hltj : j < ops.size := (Array.getElem?_eq_some_iff.1 hoj).1
 have h2 := List.all_eq_true.1 h1 j (List.mem_range.2 hltj)
 simp only [Bool.or_eq_true, Nat.beq_eq] at h2
 rcases h2 with (h2 | h2) | h2
 ·exact h2
 ·obtain ⟨om, hom, hn⟩ := Px hcl hiu _ _ h2
  rw [hoj] at hom; injection hom with hom; subst hom
  exact absurd hallj hn
 ·obtain ⟨om, hom, hn⟩ := Px hcl hju _ _ h2
  rw [hoi] at hom; injection hom with hom; subst hom
  exact absurd halli hn
def lone2Foc (c : O5) : Bool := match c.foc with
 | .any ops (_ + 1) listed => match Region.ready .any ops listed with
  | [i] => match ops[i]? with
   | some o => (List.range ops.size).all (fun i => match ops[i]? with
    | some o' => (o'.dst != o.dst) || (o'.after.size != o.after.size) || (List.range ops.size).all (fun k => Nat.beq k i || (Oi ops i ops.size).getD k false || (Oi ops k ops.size).getD i false)
    | none => true)
   | none => false
  | _ => false
 | _ => false
section
variable {P : Program} {Δ : List Deferred} {W : World} {Q : Exit → Act → World → Prop} {Φ : World → Prop} {c : O5}
theorem K0.mutAnyB {X : Type} {L : List Nat} {val : X → Value} {G Φ' : X → World → Prop} (s : Sem Next)
 (hs : ∀ w, Below W.heap.size W w → Φ w → Pm P w L val G s) (hL : Own1 W L Φ) (hΦ : ∀ x, Left L Φ (G x) (Φ' x))
 (hf : butFoc c = true) (hc : P1 c = some s) (h : ∀ x, K0 P Δ W Q (Φ' x) (Li (.v (val x)) c)) : K0 P Δ W Q Φ c := by
 obtain ⟨foc, k, σ⟩ := c
 replace h := fun x => (h x).get
 refine ⟨?_⟩
 unfold P1 at hc
 split at hc
 ·rename_i ops o ho
  split at hc
  ·cases hc
  ·cases hc
  ·rename_i hns hnm
   split at hc
   ·rename_i hw
    simp only [Bool.and_eq_true] at hw
    injection hc with hc
    subst hc
    unfold Pw at ho
    simp only at ho
    split at ho
    ·cases hf
    ·rename_i ops' fuel listed
     split at ho
     ·rename_i i hrd
      cases hoi : ops'[i]? with
      | none => rw [hoi] at ho; cases ho
      | some o' =>
       rw [hoi] at ho
       simp only [Option.map_some, Option.some.injEq, Prod.mk.injEq] at ho
       obtain ⟨rfl, rfl⟩ := ho
       intro hssa hcl hwf
       refine ⟨fun h0 => (by rw [h0] at hrd; cases hrd), fun j hj => ?_⟩
       rw [hrd] at hj
       obtain rfl : j = i := by simpa using hj
       obtain ⟨_, o2, ho2, hall⟩ := mem_ready.1 (show j ∈ Region.ready .any ops' listed by rw [hrd]; simp)
       obtain rfl : o' = o2 := by rw [hoi] at ho2; injection ho2
       have hlone : LoneBut ops' o' σ := by
        refine lonebut_of ?_
        unfold butFoc at hf
        simp only [hrd, hoi] at hf
        exact hf
       refine ⟨o', hoi, .mutm val G Φ' hlone hw.1 hw.2 (fun cs b e => hns cs b e) hs hL hΦ fun x => ?_⟩
       have hx := h x
       simp only [Sr, Li, hrd, hoi, Option.bind_some, Nat.add_one_sub_one] at hx
       exact hx hssa (hcl.set_ hoi hall) (hwf.put _ (by intro k hk; simp [AV.ids] at hk))
     ·cases ho
    ·cases ho
   ·cases hc
 ·cases hc
theorem K0.mutStAny {L : List Nat} {G Φ' : World → Prop} (s : Sem Next)
 (hs : ∀ w, Below W.heap.size W w → Φ w → ∃ w', s.run P w = .ok .skip w' ∧ Chg L w w' ∧ ∀ w'', w'.heap.size ≤ w''.heap.size → (∀ b ∈ L, w''.heap[b]? = w'.heap[b]?) → G w'') (hL : Own1 W L Φ) (hΦ : Left L Φ G Φ')
 (hf : lone2Foc c = true) (hc : P1 c = some s) (h : K0 P Δ W Q Φ' (Li (.v undef) c)) : K0 P Δ W Q Φ c := by
 obtain ⟨foc, k, σ⟩ := c
 replace h := h.get
 refine ⟨?_⟩
 unfold P1 at hc
 split at hc
 ·rename_i ops o ho
  split at hc
  ·cases hc
  ·cases hc
  ·rename_i hns hnm
   split at hc
   ·rename_i hw
    simp only [Bool.and_eq_true] at hw
    injection hc with hc
    subst hc
    unfold Pw at ho
    simp only at ho
    split at ho
    ·cases hf
    ·rename_i ops' fuel listed
     split at ho
     ·rename_i i hrd
      cases hoi : ops'[i]? with
      | none => rw [hoi] at ho; cases ho
      | some o' =>
       rw [hoi] at ho
       simp only [Option.map_some, Option.some.injEq, Prod.mk.injEq] at ho
       obtain ⟨rfl, rfl⟩ := ho
       intro hssa hcl hwf
       refine ⟨fun h0 => (by rw [h0] at hrd; cases hrd), fun j hj => ?_⟩
       rw [hrd] at hj
       obtain rfl : j = i := by simpa using hj
       obtain ⟨_, o2, ho2, hall⟩ := mem_ready.1 (show j ∈ Region.ready .any ops' listed by rw [hrd]; simp)
       obtain rfl : o' = o2 := by rw [hoi] at ho2; injection ho2
       have hlone : LoneOp ops' o' := by
        refine lone_of2 ?_
        unfold lone2Foc at hf
        simp only [hrd, hoi] at hf
        exact hf
       refine ⟨o', hoi, .lone hlone fun Δ' β a w Q' i' K' hi' hr hwf' hK => ?_⟩
       unfold wpOp
       simp only [hi', M1 hr, hw.1, if_true]
       refine .inl ?_
       have hrho : ∀ x ∈ o'.op.operands, a.eval x = σ.rho x := fun x hx => by
        rw [hr.eval, AV.conc_isV]; · rfl
        exact List.all_eq_true.1 hw.2 x (by simpa using hx)
       obtain ⟨w', hrun, hch, hG⟩ := hs w hr.bel hr.phi
       unfold Oper.wp
       rw [execOp_congr o' (fun cs b e => hns cs b e) hrho, hrun]
       simp only [Sr, Li, hrd, hoi, Option.bind_some, Nat.add_one_sub_one] at h
       have hwf2 : (σ.put o'.dst (.v undef)).wf := hwf.put _ (by intro k hk; simp [AV.ids] at hk)
       exact hK _ _ _ _ _ (h hssa (hcl.set_ hoi hall) hwf2) ((hr.mut hL hch (fun w'' a1 a2 => hG w'' a1 fun b hb => a2 b (.inl hb)) hΦ).put o'.dst (.v undef)) hwf2
     ·cases ho
    ·cases ho
   ·cases hc
 ·cases hc
end
theorem load_box1 {P : Program} {t : TypeId} {g : Nat} {v : Value} {w : World} (ht : Qt P t = some false) (h : Ka w g [v]) : (loadVar t ⟨g, 0, none⟩).run P w = .ok v w := by
 have h1 := run_load1 (P := P) ht h.one
 simp only [Sem.run_bind, Instr.loadAt, Instr.sureAddr, Sem.run_pure, Result.andThen_ok] at h1
 generalize (loadVar t ⟨g, 0, none⟩).run P w = r at h1 ⊢
 cases r with
 | ok x w' => simp only [Result.andThen_ok, Result.ok.injEq, Next.value.injEq] at h1; rw [h1.1, h1.2]
 | _ => cases h1
theorem load_boxN {P : Program} {t : TypeId} {g : Nat} {vs : List Value} {w : World} (ht : Qt P t = some true) (hn : O9 P t = some vs.length) (h : Ka w g vs) : (loadVar t ⟨g, 0, none⟩).run P w = .ok (.agg vs.toArray) w := by
 have h1 := M6 (P := P) ht hn h.range
 simp only [L7, Sem.run_bind, Instr.loadAt, Instr.sureAddr, Sem.run_pure, Result.andThen_ok] at h1
 generalize (loadVar t ⟨g, 0, none⟩).run P w = r at h1 ⊢
 cases r with
 | ok x w' => simp only [Result.andThen_ok, Result.ok.injEq, Next.value.injEq] at h1; rw [h1.1, h1.2]
 | _ => cases h1
section
variable {w W : World} {l : List UInt8}
theorem sf_c (hM : ML w) (hB : allW (Qb l) = true) (hl : l.length ≤ 10000000) : Calls Tryz.prog 58 #[K3 l] w (K5 w (fun y : Option Addr × Nat => .tuple #[.slice y.1 (Of (Qb l)).length y.2, .int .i64 0, .int .i64 0]) fun y u => Kj u y.1 (Of (Qb l)).length (Of (Qb l)) ∧ (Of (Qb l)).length ≤ y.2) := splitFields_m hM hB rfl hl
def TwoR (w : World) (gp go : Nat) (cs : List Value) (b : Bool) (u : World) : Prop := Ka u gp cs ∧ Ka u go [.bool b] ∧ w.heap.size ≤ gp ∧ gp < go ∧ go < u.heap.size
theorem TwoR.left {gp go g : Nat} {cs : List Value} {b : Bool} {wa u : World} (h : TwoR w gp go cs b wa) (e1 : wa.heap.size = u.heap.size) (e2 : ∀ b, b ∉ [g] → wa.heap[b]? = u.heap[b]?) (hg : go < g) : TwoR w gp go cs b u :=
 ⟨h.1.left e2 (by have := h.2.2.2.1; simp; omega), h.2.1.left e2 Zp, h.2.2.1, h.2.2.2.1, by rw [← e1]; exact h.2.2.2.2⟩
def yb (A : Option Addr) : Nat := match A with | some ad => ad.block + 1 | none => 0
end
def pnC (P : Pn) (q : PM) : List Value := [.int .i64 P.kind, .int .u8 (P.co.1.toNat : Int), .int .u8 (P.co.2.1.toNat : Int), .int .u8 (P.co.2.2.1.toNat : Int), .int .u8 (P.co.2.2.2.toNat : Int), .int .i64 P.p0x, .int .i64 P.p0y, .int .i64 P.p1x, .int .i64 P.p1y, .int .i64 P.rad, .slice q.sA P.stops.length q.sc, .int .i64 P.spread, .int .i64 P.im.w, .int .i64 P.im.h, .slice q.xA P.im.px.length q.xc, .int .i64 P.samp] ++ q.t.cl
theorem setRow_same {w : World} {g : Nat} {c : Array Value} {t : TypeId} {o : Nat × Nat} (h : w.heap[g]? = some (.cells c t o)) : w.setRow g c = w := by
 have e : (w.setRow g c).heap = w.heap := by
  apply Array.ext_getElem?
  intro i
  simp only [World.setRow, Array.getElem?_modify]
  split
  ·rename_i e; subst e; rw [h]; rfl
  ·rfl
 show { w with heap := (w.setRow g c).heap } = w
 rw [e]
theorem store_same {P : Program} {t : TypeId} {w : World} {g : Nat} {v : Value} {cs : List Value} (h : Ka w g cs) (he : v.cells.toList = cs) (hn : O9 P t = some cs.length) (h1 : ∀ u ∈ v.cells.toList, u.oneCell' = true) : (stS t ⟨g, 0, none⟩ v).run P w = .ok .skip w := by
 obtain ⟨ty, h⟩ := h
 have hst := run_storeCells_at P g 0 ty v.cells.toList 0 cs.toArray w h (by simp; rw [← he]; simp) h1
 have hsz : v.cells.size = cs.length := by rw [← he]; simp
 have hnew : ((cs.toArray.toList.take (0 + 0) ++ v.cells.toList ++ cs.toArray.toList.drop (0 + 0 + v.cells.toList.length)).toArray) = cs.toArray := by
  rw [he]; simp
 rw [hnew, setRow_same h] at hst
 simp only [stS, Instr.storeAt, Instr.sureAddr, storeVar, Sem.run_bind, Sem.run_pure, Result.andThen_ok, Ln hn]
 rw [if_neg (by simpa using hsz)]
 simp only [hst, Sem.run_pure, Sem.run_bind, Result.andThen_ok]
theorem stepA_zero {A : Option Addr} {c : Nat} : Xg 0 A c = A := by
 unfold Xg
 cases A with
 | none => rfl
 | some a => simp [Addr.add]
section
variable {w : World} {z : Int}
theorem Xu (h1 : 0 ≤ z) (h2 : z < 0 + 4) : Calls Tryz.prog 36 #[.string ⟨#[115, 112, 114, 101, 97, 100]⟩, .int .i64 z] w (K5 w (fun _ : Unit => K3 (Kd Mp 0 z)) fun _ _ => True) := by
 obtain ⟨k, hk⟩ : ∃ k : Nat, z = 0 + (k : Int) := ⟨(z - 0).toNat, by omega⟩
 have hlt : k < 4 := by omega
 obtain ⟨s, hs⟩ : ∃ s, Mp[k]? = some s := ⟨_, List.getElem?_eq_getElem (show k < Mp.length from hlt)⟩
 have hn : Kd Mp 0 z = s := by
  unfold Kd
  rw [show (z - 0).toNat = k by omega, hs]; rfl
 rw [hn]
 refine K0.enter Tryz.func36 rfl ?_
 refine ZR ?_
 refine K0.callv (fun w1 hw h => names_spread) Zk (fun y => ?_)
 refine K0.run Zk (stop := 1000) 7 _ ?_
 refine ZS 4 ?_
 refine K0.slot 15 (.int .i64 (IntKind.i64.wrap (z - 0))) (.int .i64 (k : Int)) Zk (by rw [IntWalk.i64_in _ Zo]; congr 1; omega) ?_
 refine K0.ask (Ke 64 (.slice (some ⟨y, 0, none⟩) 4 4) k) (.pointer (some ((⟨y, 0, none⟩ : Addr).add k))) Zk (fun w1 hw h => Kr (elem := 9) Zk Zk hlt) ?_
 refine ZS 5 ?_
 refine ZA (L7 9 ((⟨y, 0, none⟩ : Addr).add k)) (K3 s) (fun w1 hw h => K9 Zk (by obtain ⟨ad, q1, q2⟩ := h.2.2 k s hs; cases q1; exact q2)) ?_
 exact ZW (K3 s)
theorem name_look (h1 : 1 ≤ z) (h2 : z < 1 + 2) : Calls Tryz.prog 36 #[.string ⟨#[108, 111, 111, 107]⟩, .int .i64 z] w (K5 w (fun _ : Unit => K3 (Kd P5 1 z)) fun _ _ => True) := by
 obtain ⟨k, hk⟩ : ∃ k : Nat, z = 1 + (k : Int) := ⟨(z - 1).toNat, by omega⟩
 have hlt : k < 2 := by omega
 obtain ⟨s, hs⟩ : ∃ s, P5[k]? = some s := ⟨_, List.getElem?_eq_getElem (show k < P5.length from hlt)⟩
 have hn : Kd P5 1 z = s := by
  unfold Kd
  rw [show (z - 1).toNat = k by omega, hs]; rfl
 rw [hn]
 refine K0.enter Tryz.func36 rfl ?_
 refine ZR ?_
 refine K0.callv (fun w1 hw h => names_look) Zk (fun y => ?_)
 refine K0.run Zk (stop := 1000) 7 _ ?_
 refine ZS 4 ?_
 refine K0.slot 15 (.int .i64 (IntKind.i64.wrap (z - 1))) (.int .i64 (k : Int)) Zk (by rw [IntWalk.i64_in _ Zo]; congr 1; omega) ?_
 refine K0.ask (Ke 64 (.slice (some ⟨y, 0, none⟩) 2 2) k) (.pointer (some ((⟨y, 0, none⟩ : Addr).add k))) Zk (fun w1 hw h => Kr (elem := 9) Zk Zk hlt) ?_
 refine ZS 5 ?_
 refine ZA (L7 9 ((⟨y, 0, none⟩ : Addr).add k)) (K3 s) (fun w1 hw h => K9 Zk (by obtain ⟨ad, q1, q2⟩ := h.2.2 k s hs; cases q1; exact q2)) ?_
 exact ZW (K3 s)
theorem name_rule (h1 : 1 ≤ z) (h2 : z < 1 + 2) : Calls Tryz.prog 36 #[.string ⟨#[114, 117, 108, 101]⟩, .int .i64 z] w (K5 w (fun _ : Unit => K3 (Kd Lq 1 z)) fun _ _ => True) := by
 obtain ⟨k, hk⟩ : ∃ k : Nat, z = 1 + (k : Int) := ⟨(z - 1).toNat, by omega⟩
 have hlt : k < 2 := by omega
 obtain ⟨s, hs⟩ : ∃ s, Lq[k]? = some s := ⟨_, List.getElem?_eq_getElem (show k < Lq.length from hlt)⟩
 have hn : Kd Lq 1 z = s := by
  unfold Kd
  rw [show (z - 1).toNat = k by omega, hs]; rfl
 rw [hn]
 refine K0.enter Tryz.func36 rfl ?_
 refine ZR ?_
 refine K0.callv (fun w1 hw h => names_rule) Zk (fun y => ?_)
 refine K0.run Zk (stop := 1000) 7 _ ?_
 refine ZS 4 ?_
 refine K0.slot 15 (.int .i64 (IntKind.i64.wrap (z - 1))) (.int .i64 (k : Int)) Zk (by rw [IntWalk.i64_in _ Zo]; congr 1; omega) ?_
 refine K0.ask (Ke 64 (.slice (some ⟨y, 0, none⟩) 2 2) k) (.pointer (some ((⟨y, 0, none⟩ : Addr).add k))) Zk (fun w1 hw h => Kr (elem := 9) Zk Zk hlt) ?_
 refine ZS 5 ?_
 refine ZA (L7 9 ((⟨y, 0, none⟩ : Addr).add k)) (K3 s) (fun w1 hw h => K9 Zk (by obtain ⟨ad, q1, q2⟩ := h.2.2 k s hs; cases q1; exact q2)) ?_
 exact ZW (K3 s)
theorem Y1 {k : Co} : Calls Tryz.prog 15 #[S5 k] w (K5 w (fun _ : Unit => K3 (Na k)) fun _ _ => True) := by
 refine K0.enter Tryz.func15 rfl ?_
 refine ZR ?_
 refine K0.make (Ks (86) 4 #[(0, .int .u8 (k.1.toNat : Int)), (1, .int .u8 (k.2.1.toNat : Int)), (2, .int .u8 (k.2.2.1.toNat : Int)), (3, .int .u8 (k.2.2.2.toNat : Int))]) (Kb 4) (Kp 5 #[.int .u8 (k.1.toNat : Int), .int .u8 (k.2.1.toNat : Int), .int .u8 (k.2.2.1.toNat : Int), .int .u8 (k.2.2.2.toNat : Int)]) Zk (fun w1 hw h => K8 Zk) (fun gb => ?_)
 refine ZR ?_
 refine ZD 10 (fun w1 hw h => xencode_m (A := some ⟨gb, 0, none⟩) (n := 4) (c := 4) (bs := X6 k) (by have h2 := K7.lit (B := 0) (n := 4) (s := 1) h.2 rfl (Nat.zero_le _) Zd; exact K7.bytes (l := X6 k) h2) Zd) fun u => ?_
 refine ZA (S3 .add 9 (.const (.string ⟨#[35]⟩)) (.tmp 12) (K3 [35]) (K3 (Oq (X6 k)))) (K3 (Na k)) (fun w1 hw h => Ld (l := [35]) (m := Oq (X6 k)) (by rw [R9]; show 1 + 2 * 4 ≤ _; decide)) ?_
 exact ZW (K3 (Na k))
theorem rfcolor_m {k : Co} : Calls Tryz.prog 21 #[S5 k] w (K5 w (fun _ : Unit => K3 (Na k)) fun _ _ => True) := by
 refine K0.enter Tryz.func21 rfl ?_
 refine ZR ?_
 refine K0.make (Ks (86) 4 #[(0, .int .u8 (k.1.toNat : Int)), (1, .int .u8 (k.2.1.toNat : Int)), (2, .int .u8 (k.2.2.1.toNat : Int)), (3, .int .u8 (k.2.2.2.toNat : Int))]) (Kb 4) (Kp 5 #[.int .u8 (k.1.toNat : Int), .int .u8 (k.2.1.toNat : Int), .int .u8 (k.2.2.1.toNat : Int), .int .u8 (k.2.2.2.toNat : Int)]) Zk (fun w1 hw h => K8 Zk) (fun gb => ?_)
 refine ZR ?_
 refine ZD 10 (fun w1 hw h => rencode_m (A := some ⟨gb, 0, none⟩) (n := 4) (c := 4) (bs := X6 k) (by have h2 := K7.lit (B := 0) (n := 4) (s := 1) h.2 rfl (Nat.zero_le _) Zd; exact K7.bytes (l := X6 k) h2) Zd) fun u => ?_
 refine ZA (S3 .add 9 (.const (.string ⟨#[35]⟩)) (.tmp 12) (K3 [35]) (K3 (Oq (X6 k)))) (K3 (Na k)) (fun w1 hw h => Ld (l := [35]) (m := Oq (X6 k)) (by rw [R9]; show 1 + 2 * 4 ≤ _; decide)) ?_
 exact ZW (K3 (Na k))
end
end Go.Proofs.YtdeepdckmhpldaaGreatDoor
