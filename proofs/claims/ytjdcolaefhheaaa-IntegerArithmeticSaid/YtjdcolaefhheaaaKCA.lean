/-
  The law of the integers' arithmetic.
-/
import Derived.Test.YtjdcolaefhheaaaQP
import Derived.Test.YtjdcolaefhheaaaHeldX
import Derived.Test.YtjdcolaefhheaaaKa
import Derived.Test.YtjdcolaefhheaaaJt
namespace Go.Proofs.Ytjdcolaefhheaaa
set_option linter.unusedVariables false
set_option linter.unusedSimpArgs false
open Go.RowKit

/-- The blocks of a slice that has room. -/
def blks (A : Option Addr) (c : Nat) : List Nat := match A with | some p => if c = 0 then [] else [p.block] | none => []
theorem Own.blk {w : World} {B : Nat} {A : Option Addr} {n c : Nat} {l : List Nat} (h : Own w B A n c l) : ∀ b ∈ blks A c, B ≤ b ∧ ∃ cs ty own, w.heap[b]? = some (.cells cs ty own) := by
  intro b hb
  unfold blks at hb
  split at hb
  · split at hb
    · cases hb
    · rename_i p h0
      obtain ⟨g, cur, t, hA, hB, hh, _⟩ := h.own (by omega)
      injection hA with hA
      subst hA
      simp only [List.mem_singleton] at hb
      subst hb
      exact ⟨hB, _, _, _, hh⟩
  · cases hb
theorem Own.left {w wa : World} {B : Nat} {A : Option Addr} {n c : Nat} {l L : List Nat} (h : Own wa B A n c l) (e1 : wa.heap.size = w.heap.size) (e2 : ∀ b, b ∉ L → wa.heap[b]? = w.heap[b]?) (hd : ∀ b ∈ blks A c, b ∉ L) : Own w B A n c l := by
  have hkeep : ∀ p, A = some p → 0 < c → w.heap[p.block]? = wa.heap[p.block]? := fun p hp h0 => (e2 _ (hd _ (by unfold blks; rw [hp]; simp; omega))).symm
  refine ⟨⟨h.dig, h.len, h.le, h.cap, h.rd.1, fun h0 => ?_⟩, fun h0 => ?_⟩
  · obtain ⟨x, hA, hb, hc⟩ := h.rd.2 h0
    have hle := h.le
    refine ⟨x, hA, by rw [← e1]; exact hb, fun j u hu => ?_⟩
    have e : w.cell? (x.add j) = wa.cell? (x.add j) := World.cell?_of_block (by rw [block_of_add]; exact hkeep x hA (by omega))
    exact e.trans (hc j u hu)
  · obtain ⟨g, cur, t, hA, hB, hh, hs⟩ := h.own h0
    exact ⟨g, cur, t, hA, hB, (hkeep _ hA h0).trans hh, hs⟩
theorem CallPost.freshN {X : Type} {w : World} {val : X → Value} {G : X → World → Prop} {e : Ending} {w' : World} (h : CallPost w val G e w') (L : X → List Nat)
    (hL : ∀ x w, G x w → ∀ b ∈ L x, ∃ cs ty own, w.heap[b]? = some (.cells cs ty own)) {N : Nat} (hN : N ≤ w.heap.size) :
    CallPost w (fun q : X × Nat => val q.1) (fun q u => G q.1 u ∧ (∀ b ∈ L q.1, N ≤ b ∧ b < q.2) ∧ q.2 ≤ u.heap.size ∧ N ≤ q.2) e w' := by
  have hs : w.heap.size ≤ w'.heap.size := by obtain ⟨_, _, hb, _⟩ := h; exact hb.size
  obtain ⟨x, rfl, hb, hG⟩ := h
  obtain ⟨y, he, hb', hG'⟩ := CallPost.fresh ⟨x, rfl, hb, hG⟩ L hL
  have hy := hG' w' (Nat.le_refl _) fun _ _ _ => rfl
  refine ⟨(y.1, w'.heap.size), he, hb', fun w'' h1 h2 => ⟨(hG' w'' h1 h2).1, fun b hb => ⟨Nat.le_trans hN (hy.2.1 b hb).1, ?_⟩, h1, Nat.le_trans hN hs⟩⟩
  exact Nat.lt_of_lt_of_le (hy.2.1 b hb).2 hy.2.2

theorem run_idxN {P : Program} {t elem : TypeId} {g n c k s : Nat} {w : World} (hu : P.underlying t = some (.slice elem)) (hs : sizeT P elem = some s) (hk : k < n) :
    (idxS t (.slice (some ⟨g, 0, none⟩) n c) k).run P w = .ok (.value (.pointer (some ⟨g, k * s, none⟩))) w := by
  have hb : 0 ≤ (k : Int) ∧ (k : Int) < (n : Int) := by omega
  simp only [idxS, Instr.indexAt, asIntOf, Sem.run_bind, Sem.run_pure, Result.andThen_ok, run_underlying hu, run_sizeT hs, if_pos hb, Int.toNat_natCast, Addr.add_mid, Nat.zero_add]
theorem run_ldN {P : Program} {t : TypeId} {g off : Nat} {vs : List Value} {w : World} (ht : isRowT P t = some true) (hn : sizeT P t = some vs.length) (h : w.rangeAt g off vs) :
    (ldS t ⟨g, off, none⟩).run P w = .ok (.value (.agg vs.toArray)) w := by
  have hrun : ∀ d : TypeDesc, P.underlying t = some d → d.isRow = true → (loadVar t ⟨g, off, none⟩).run P w = .ok (.agg vs.toArray) w := fun d hd hdr =>
    run_loadVar_mid w g off t vs d h hd hdr hn
  have hl : (loadVar t ⟨g, off, none⟩).run P w = .ok (.agg vs.toArray) w := by
    unfold isRowT at ht
    split at ht
    · rename_i hd; exact hrun _ hd rfl
    · rename_i hd; exact hrun _ hd rfl
    · cases ht
    · cases ht
  simp only [ldS, Sem.run_bind, Instr.loadAt, Instr.sureAddr, Sem.run_pure, Result.andThen_ok, hl]
theorem make_litN {P : Program} {t elem : TypeId} {len : Nat} {parts : Array (Nat × Value)} {cells : Array Value} {w : World} {N : Nat} (h : litOf P t len parts = some (elem, cells)) (hN : N ≤ w.heap.size) :
    MakePost P w (litV len) (fun g u => litG elem cells g u ∧ N ≤ g) (litS t len parts) := by
  obtain ⟨x, w', hrun, hb, hG⟩ := MakePost.fresh (make_lit (w := w) h) (fun g => [g]) (fun g u h b hb => by
    simp only [List.mem_singleton] at hb; subst hb; exact ⟨_, _, _, h⟩)
  exact ⟨x, w', hrun, hb, fun w'' h1 h2 => ⟨(hG w'' h1 h2).1, Nat.le_trans hN ((hG w'' h1 h2).2 x (by simp))⟩⟩

theorem risn_v {v : SV} {B : Bool} {x : Int} {K : Nat} {w : World} (hB : isn v.s v.l = B) (hv : IsI v x K w) : Calls Try.prog 89 #[v.val] w (CallPost w (fun _ : Unit => .bool B) fun _ _ => True) := by
  subst hB; exact (risn_c w hv.inn).mono fun _ _ h => h.post

set_option maxRecDepth 100000 in
set_option maxHeartbeats 1000000 in
theorem isame_m {a b : SV} {x y : Int} {K1 K2 : Nat} {w : World} (ha : IsI a x K1 w) (hb : IsI b y K2 w) :
    Calls Try.prog 53 #[a.val, b.val] w (CallPost w (fun _ : Unit => .bool (sameB a b)) fun _ _ => True) := by
  have hla := ha.inn.len
  have hlb := hb.inn.len
  have hnI := ha.inn.lenI
  cases hs : (a.s != b.s)
  case true =>
    refine Good.enter Try.func53 rfl ?_
    refine Good.run (by kernel_rfl) (stop := 6) 1000 _ ?_
    refine Good.slot 11 (.bool (a.s != b.s)) (.bool true) (by kernel_rfl) (by rw [hs]) ?_
    refine Good.run (by kernel_rfl) (stop := 1000) 1000 _ ?_
    refine Good.cond true (by kernel_rfl) ?_
    refine Good.run (by kernel_rfl) (stop := 1000) 1000 _ ?_
    refine Good.ret (v := .bool false) (by kernel_rfl) (fun w1 hw h => ⟨(), by rw [sameB_no1 hs], hw, fun _ _ _ => trivial⟩)
  by_cases hn : a.n = b.n
  case neg =>
    have hne : a.l ≠ b.l := fun e => hn (by rw [← hla, ← hlb, e])
    refine Good.enter Try.func53 rfl ?_
    refine Good.run (by kernel_rfl) (stop := 6) 1000 _ ?_
    refine Good.slot 11 (.bool (a.s != b.s)) (.bool false) (by kernel_rfl) (by rw [hs]) ?_
    refine Good.run (by kernel_rfl) (stop := 1000) 1000 _ ?_
    refine Good.condr ((a.n : Int) != (b.n : Int)) true (by kernel_rfl) (by simp; omega) ?_
    refine Good.run (by kernel_rfl) (stop := 1000) 1000 _ ?_
    refine Good.ret (v := .bool false) (by kernel_rfl) (fun w1 hw h => ⟨(), by rw [sameB_no2 hne], hw, fun _ _ _ => trivial⟩)
  refine Good.enter Try.func53 rfl ?_
  refine Good.run (by kernel_rfl) (stop := 6) 1000 _ ?_
  refine Good.slot 11 (.bool (a.s != b.s)) (.bool false) (by kernel_rfl) (by rw [hs]) ?_
  refine Good.run (by kernel_rfl) (stop := 1000) 1000 _ ?_
  refine Good.condr ((a.n : Int) != (b.n : Int)) false (by kernel_rfl) (by simp; omega) ?_
  refine Good.run (by kernel_rfl) (stop := 1000) 1000 _ ?_
  refine Good.loop (ι := {k : Nat // k ≤ a.n ∧ ∀ i, i < k → dg a.l i = dg b.l i}) 38 (fun i => ⟨[(2, .p 2 0), (3, .p 3 0), (23, .v (.int .i64 i.1)), (22, .v (.int .i64 a.n))], [(2, [.v (.bool a.s), .v (.slice a.A a.n a.c)]), (3, [.v (.bool b.s), .v (.slice b.A b.n b.c)])]⟩) (fun _ _ => True) (fun i => a.n - i.1) (⟨0, by omega, by omega⟩) (by kernel_rfl) (fun _ => by kernel_rfl) ⟨by kernel_rfl, by kernel_rfl, by kernel_rfl⟩ (fun _ _ => trivial) ?_
  rintro ⟨k, hk, hkd⟩ g
  by_cases hlt : k < a.n
  ·
    refine Good.run (by kernel_rfl) (stop := 1000) 1000 _ ?_
    refine Good.condr (decide ((k : Int) < (a.n : Int))) true (by kernel_rfl) (by simp; omega) ?_
    refine Good.run (by kernel_rfl) (stop := 1000) 1000 _ ?_
    obtain ⟨ad, hA, hca⟩ := ha.inn.at_ (k := k) hlt
    obtain ⟨bd, hB, hcb⟩ := hb.inn.at_ (k := k) (by omega)
    refine Good.askAt 3 (idxS 22 (.slice a.A a.n a.c) k) (.pointer (some (ad.add k))) (by kernel_rfl) (fun w1 hw h => by rw [hA]; exact run_idxS (elem := 53) (by kernel_rfl) (by kernel_rfl) hlt) ?_
    refine Good.run (by kernel_rfl) (stop := 1000) 1000 _ ?_
    refine Good.askAt 4 (ldS 53 (ad.add k)) (.int .u32 (dg a.l k)) (by kernel_rfl) (fun w1 hw h => run_ldS (by kernel_rfl) (keepc hw hca)) ?_
    refine Good.run (by kernel_rfl) (stop := 1000) 1000 _ ?_
    refine Good.askAt 8 (idxS 22 (.slice b.A b.n b.c) k) (.pointer (some (bd.add k))) (by kernel_rfl) (fun w1 hw h => by rw [hB]; exact run_idxS (elem := 53) (by kernel_rfl) (by kernel_rfl) (by omega)) ?_
    refine Good.run (by kernel_rfl) (stop := 1000) 1000 _ ?_
    refine Good.askAt 9 (ldS 53 (bd.add k)) (.int .u32 (dg b.l k)) (by kernel_rfl) (fun w1 hw h => run_ldS (by kernel_rfl) (keepc hw hcb)) ?_
    refine Good.run (by kernel_rfl) (stop := 1000) 1000 _ ?_
    by_cases he : dg a.l k = dg b.l k
    ·
      refine Good.condr ((((dg a.l k : Nat) : Int) != ((dg b.l k : Nat) : Int))) false (by kernel_rfl) (by rw [he]; simp) ?_
      refine Good.run (by kernel_rfl) (stop := 1000) 1000 _ ?_
      refine Good.slot 23 (.int .i64 (IntKind.i64.wrap ((k : Int) + 1))) (.int .i64 ((k + 1 : Nat) : Int)) (by kernel_rfl) (by rw [wrap_succ hlt hnI]) ?_
      refine Good.next (⟨k + 1, by omega, lt_succ_all hkd he⟩) (by kernel_rfl) (by show a.n - (k + 1) < a.n - k; omega) ⟨by kernel_rfl, by kernel_rfl, by kernel_rfl⟩ (fun _ _ => trivial)
    ·
      refine Good.condr ((((dg a.l k : Nat) : Int) != ((dg b.l k : Nat) : Int))) true (by kernel_rfl) (by simp; omega) ?_
      refine Good.run (by kernel_rfl) (stop := 1000) 1000 _ ?_
      refine Good.leave (by kernel_rfl) ?_
      refine Good.run (by kernel_rfl) (stop := 1000) 1000 _ ?_
      refine Good.ret (v := .bool false) (by kernel_rfl) (fun w1 hw h => ⟨(), by rw [sameB_no2 fun e => he (by rw [e])], hw, fun _ _ _ => trivial⟩)
  ·
    refine Good.run (by kernel_rfl) (stop := 1000) 1000 _ ?_
    refine Good.condr (decide ((k : Int) < (a.n : Int))) false (by kernel_rfl) (by simp; omega) ?_
    refine Good.run (by kernel_rfl) (stop := 1000) 1000 _ ?_
    refine Good.leave (by kernel_rfl) ?_
    refine Good.run (by kernel_rfl) (stop := 1000) 1000 _ ?_
    have hl : a.l = b.l := dg_ext (by omega) fun i hi => hkd i (by omega)
    refine Good.ret (v := .bool true) (by kernel_rfl) (fun w1 hw h => ⟨(), by rw [sameB_yes hs hl], hw, fun _ _ _ => trivial⟩)
theorem isameM_v {a b : SV} {x y : Int} {K1 K2 : Nat} {w : World} {B : Bool} (hs : sameB a b = B) (ha : IsI a x K1 w) (hb : IsI b y K2 w) :
    Calls Try.prog 53 #[a.val, b.val] w (CallPost w (fun _ : Unit => .bool B) fun _ _ => True) := by subst hs; exact isame_m ha hb
theorem isameM_nn {a b : SV} {x y : Int} {K1 K2 : Nat} {w : World} {B : Bool} (ha : IsN a x K1 w) (hb : IsN b y K2 w) (h : decide (x = y) = B) : Calls Try.prog 53 #[a.val, b.val] w (CallPost w (fun _ : Unit => .bool B) fun _ _ => True) :=
  isameM_v (by rw [sameB_norm ha.i hb, isn_n2 ha, Bool.true_and]; exact h) ha.i hb.i
theorem iexample_m (w : World) : Calls Try.prog 41 #[] w (CallPost w (fun _ : Unit => .bool true) fun _ _ => True) := (iexample_c w).mono fun _ _ h => h.post
def FewL (l : List SV) : List (Bool × Option Addr × Nat × Nat) := l.map fun v => (v.s, v.A, v.n, v.c)
def fewB (most : Nat) (l : List SV) : Bool := l.all fun v => decide (v.n ≤ most)
theorem fewB_all (most : Nat) (l : List SV) : allFew most (FewL l) = fewB most l := by
  unfold allFew FewL fewB
  rw [List.all_map]; rfl
theorem few2_m {a b : SV} {most : Nat} {B : Bool} {w : World} {g : Nat} {t : TypeId} (hB : fewB most [a, b] = B) (hm : most ≤ 1000000) (h : litG t #[.bool a.s, .slice a.A a.n a.c, .bool b.s, .slice b.A b.n b.c] g w)
    (ha : (a.n : Int) ≤ 9223372036854775807) (hb : (b.n : Int) ≤ 9223372036854775807) :
    Calls Try.prog 40 #[.int .i64 (most : Int), litV 2 g] w (CallPost w (fun _ : Unit => .bool B) fun _ _ => True) := by
  refine (ifew_c (L := FewL [a, b]) (k := 2) (c := 2) (most := most) w (rowi2 (t := t) h ha hb) rfl (by omega) hm).mono fun _ _ h => ?_
  rw [fewB_all, hB] at h
  exact h.post
theorem few3_m {a b c : SV} {most : Nat} {B : Bool} {w : World} {g : Nat} {t : TypeId} (hB : fewB most [a, b, c] = B) (hm : most ≤ 1000000) (h : litG t #[.bool a.s, .slice a.A a.n a.c, .bool b.s, .slice b.A b.n b.c, .bool c.s, .slice c.A c.n c.c] g w)
    (ha : (a.n : Int) ≤ 9223372036854775807) (hb : (b.n : Int) ≤ 9223372036854775807) (hc : (c.n : Int) ≤ 9223372036854775807) :
    Calls Try.prog 40 #[.int .i64 (most : Int), litV 3 g] w (CallPost w (fun _ : Unit => .bool B) fun _ _ => True) := by
  refine (ifew_c (L := FewL [a, b, c]) (k := 3) (c := 3) (most := most) w (rowi3 (t := t) h ha hb hc) rfl (by omega) hm).mono fun _ _ h => ?_
  rw [fewB_all, hB] at h
  exact h.post
theorem IsI.lenI {a : SV} {x : Int} {K : Nat} {w : World} (h : IsI a x K w) : (a.n : Int) ≤ 9223372036854775807 := by have := h.inn.lenI; omega
set_option maxRecDepth 100000 in
set_option maxHeartbeats 1000000 in
theorem size_m {a : SV} {x : Int} {K : Nat} {w : World} (ha : IsI a x K w) (hK : K ≤ 68719476736) : Calls Try.prog 65 #[a.val] w (CallPost w SV.val fun v w => IsN v (x.natAbs : Int) K w) := by
  refine Good.enter Try.func65 rfl ?_
  refine Good.run (by kernel_rfl) (stop := 1000) 1000 _ ?_
  refine Good.callv (fun w1 hw h => inew_m (a := ⟨false, a.A, a.n, a.c, a.l⟩) (x := (x.natAbs : Int)) ⟨(ha.below hw).inn, by rw [ha.abs]; rfl, ha.le⟩ hK) (by kernel_rfl) (fun v => ?_)
  refine Good.run (by kernel_rfl) (stop := 1000) 1000 _ ?_
  refine Good.ret (v := SV.val v) (by kernel_rfl) (fun w1 hw h => ⟨v, rfl, hw, fun w'' k1 k2 => (h w'' k1 k2).2⟩)

section
variable {P : Program} {W : World} {Q : Exit → Act → World → Prop} {Φ Φ' : World → Prop} {c : Cfg}
def notAny (c : Cfg) : Bool := match c.foc with | .any _ _ _ => false | _ => true
/-- A fact that asks for no world comes out of what is known. -/
theorem Good.pure_ {p : Prop} (hp : ∀ w, Below W.heap.size W w → Φ w → p) (hf : notAny c = true) (h : p → Good P W Q Φ c) : Good P W Q Φ c := by
  by_cases h0 : p
  · exact h h0
  · obtain ⟨foc, k, σ⟩ := c
    refine ⟨?_⟩
    unfold GoodD
    cases foc with
    | code x => exact fun _ β a w hr => absurd (hp w hr.bel hr.phi) h0
    | ops o l => exact fun _ β a w hr => absurd (hp w hr.bel hr.phi) h0
    | any o f l => cases hf
    | out e => exact fun _ β a w hr => absurd (hp w hr.bel hr.phi) h0
/-- A store into old memory. -/
theorem Good.mutSt {L : List Nat} {G : World → Prop} (s : Sem Next)
    (hs : ∀ w, Below W.heap.size W w → Φ w → ∃ w', s.run P w = .ok .skip w' ∧ Chg L w w' ∧ ∀ w'', w'.heap.size ≤ w''.heap.size → (∀ b ∈ L, w''.heap[b]? = w'.heap[b]?) → G w'') (hL : Own1 W L Φ) (hΦ : Left L Φ G Φ')
    (hf : opsFoc c = true) (hc : askSem c = some s) (h : Good P W Q Φ' (amBack (.v undef) c)) : Good P W Q Φ c := by
  obtain ⟨foc, k, σ⟩ := c
  replace h := h.get
  refine ⟨?_⟩
  unfold askSem at hc
  split at hc
  · rename_i ops o ho
    split at hc
    · cases hc
    · rename_i hns
      split at hc
      · rename_i hw
        simp only [Bool.and_eq_true] at hw
        injection hc with hc
        subst hc
        unfold nextOp at ho
        simp only at ho
        split at ho
        · rename_i ops' i l
          cases hoi : ops'[i]? with
          | none => rw [hoi] at ho; cases ho
          | some o' =>
            rw [hoi] at ho
            simp only [Option.map_some, Option.some.injEq, Prod.mk.injEq] at ho
            obtain ⟨rfl, rfl⟩ := ho
            intro hwf β a w hr
            show wpOps P ops' (post P Q k) (i :: l) a w
            rw [wpOps_cons]
            unfold wpOp
            simp only [hoi, wantedA_ok hr, hw.1, if_true]
            refine .inl ?_
            have hrho : ∀ x ∈ o'.op.operands, a.eval x = σ.rho x := fun x hx => by
              rw [hr.eval, AV.conc_isV]; · rfl
              exact List.all_eq_true.1 hw.2 x (by simpa using hx)
            obtain ⟨w', hrun, hch, hG⟩ := hs w hr.bel hr.phi
            unfold Oper.wp
            rw [execOp_congr o' (fun cs b e => hns cs b e) hrho, hrun]
            simp only [GoodD, amBack, hoi, Option.bind_some] at h
            exact h (hwf.put _ (by intro k hk; simp [AV.ids] at hk)) β _ w' ((hr.mut hL hch (fun w'' k1 k2 => hG w'' k1 fun b hb => k2 b (.inl hb)) hΦ).put o'.dst (.v undef))
        · cases hf
        · cases ho
      · cases hc
  · cases hc
end
def stS (t : TypeId) (p : Addr) (v : Value) : Sem Next := Instr.storeAt t (.pointer (some p)) v >>= fun _ => (pure .skip : Sem Next)
theorem Own.same {w w' : World} {B : Nat} {A : Option Addr} {n c : Nat} {l : List Nat} (h : Own w B A n c l) (e1 : w.heap.size ≤ w'.heap.size) (e2 : ∀ b ∈ blks A c, w'.heap[b]? = w.heap[b]?) : Own w' B A n c l := by
  have hkeep : ∀ p, A = some p → 0 < c → w'.heap[p.block]? = w.heap[p.block]? := fun p hp h0 => e2 _ (by unfold blks; rw [hp]; simp; omega)
  refine ⟨⟨h.dig, h.len, h.le, h.cap, h.rd.1, fun h0 => ?_⟩, fun h0 => ?_⟩
  · obtain ⟨x, hA, hb, hc⟩ := h.rd.2 h0
    have hle := h.le
    refine ⟨x, hA, Nat.lt_of_lt_of_le hb e1, fun j u hu => ?_⟩
    have e : w'.cell? (x.add j) = w.cell? (x.add j) := World.cell?_of_block (by rw [block_of_add]; exact hkeep x hA (by omega))
    exact e.trans (hc j u hu)
  · obtain ⟨g, cur, t, hA, hB, hh, hs⟩ := h.own h0
    exact ⟨g, cur, t, hA, hB, (hkeep _ hA h0).trans hh, hs⟩
theorem Own.rebase {w : World} {B N : Nat} {A : Option Addr} {n c : Nat} {l : List Nat} (h : Own w B A n c l) (hN : ∀ b ∈ blks A c, N ≤ b) : Own w N A n c l := by
  refine ⟨h.toIn, fun h0 => ?_⟩
  obtain ⟨g, cur, t, rfl, hB, hh, hs⟩ := h.own h0
  exact ⟨g, cur, t, rfl, hN g (by unfold blks; simp; omega), hh, hs⟩
/-- One digit of an own slice written. -/
theorem Own.put1 {w : World} {B g n c k d : Nat} {l : List Nat} (h : Own w B (some ⟨g, 0, none⟩) n c l) (hk : k < n) (hd : d < 4294967296) :
    (stS 53 ⟨g, k, none⟩ (.int .u32 d)).run Try.prog w = .ok .skip (w.setCell ⟨g, k, none⟩ (.int .u32 d)) ∧ Own (w.setCell ⟨g, k, none⟩ (.int .u32 d)) B (some ⟨g, 0, none⟩) n c (l.set k d) := by
  have hle := h.le
  obtain ⟨g', cur, t, hA, hB, hh, hs⟩ := h.own (by omega)
  injection hA with hA
  injection hA with hA _ _
  subst hA
  have hcell : w.cell? ⟨g, k, none⟩ = some (cur[k]'(by omega)) := by simp [World.cell?, hh]
  have hfr : w.frozen? ⟨g, k, none⟩ = false := by simp [World.frozen?, hh]
  refine ⟨?_, ⟨h.dig.set k hd, by simp [h.len], h.le, h.cap, ?_⟩, fun _ => ⟨g, cur.setIfInBounds k (.int .u32 d), t, rfl, hB, ?_, by simpa using hs⟩⟩
  · have hsz : sizeT Try.prog 53 = some 1 := by kernel_rfl
    have hst : (store ((⟨g, k, none⟩ : Addr).add 0) (.int .u32 d)).run Try.prog w = .ok () (w.setCell ⟨g, k, none⟩ (.int .u32 d)) := by
      rw [Addr.add_mid, Nat.add_zero, run_store _ _ _ _ _ rfl, hcell]
      simp only [hfr, Bool.false_eq_true, if_false]
    simp only [stS, Instr.storeAt, Instr.sureAddr, storeVar, Sem.run_bind, Sem.run_pure, Result.andThen_ok, run_sizeT hsz]
    have hc : (Value.int .u32 (d : Int)).cells = #[.int .u32 (d : Int)] := rfl
    rw [hc]
    simp only [List.size_toArray, List.length_cons, List.length_nil, ne_eq, Nat.zero_add, not_true_eq_false, if_false, storeCells, Sem.run_bind, hst, Result.andThen_ok, Sem.run_pure]
  · refine ⟨by rw [u32s_length, List.length_set, h.len]; omega, fun h0 => ⟨_, rfl, by simp [World.setCell]; exact (Array.getElem?_eq_some_iff.1 hh).1, fun j u hu => ?_⟩⟩
    rw [← u32s_set] at hu
    rw [Addr.add_mid, Nat.zero_add]
    by_cases e : j = k
    · subst e
      rw [List.getElem?_set_self (by rw [u32s_length, h.len]; exact hk)] at hu
      injection hu with hu
      subst hu
      exact World.cell?_setCell_same w _ _ hcell
    · rw [List.getElem?_set_ne (Ne.symm e)] at hu
      rw [World.cell?_setCell_other _ _ _ _ (by intro e'; injection e' with _ e' _; exact e e'.symm)]
      obtain ⟨x, hA, _, hc⟩ := h.rd.2 h0
      injection hA with hA
      subst hA
      have := hc j u hu
      rwa [Addr.add_mid, Nat.zero_add] at this
  · simp only [World.setCell, Array.getElem?_modify, if_true, hh, Option.map_some, Option.isSome_none, Bool.false_eq_true, if_false]
theorem run_idx1 {P : Program} {t elem : TypeId} {g n c k : Nat} {w : World} {A : Option Addr} (hA : A = some ⟨g, 0, none⟩) (hu : P.underlying t = some (.slice elem)) (hs : sizeT P elem = some 1) (hk : k < n) :
    (idxS t (.slice A n c) k).run P w = .ok (.value (.pointer (some ⟨g, k, none⟩))) w := by
  subst hA
  have := run_idxN (P := P) (c := c) (w := w) (g := g) hu hs hk
  rwa [Nat.mul_one] at this

/-- The copy that own makes. -/
def ow (a : SV) (x : Addr × Nat) : SV := ⟨a.s, some x.1, a.n, x.2, a.l⟩
structure OwnT (a : SV) (x : Addr × Nat) (u : World) : Prop where
  room : a.n + 1 ≤ x.2
  own : Own u 0 (some x.1) a.n x.2 a.l
  last : u.cell? (x.1.add a.n) = some (.int .u32 77)
theorem blks_some {p : Addr} {c : Nat} (h : 0 < c) : blks (some p) c = [p.block] := by
  show (if c = 0 then [] else [p.block]) = _
  rw [if_neg (by omega)]
theorem OwnT.left {a : SV} {x : Addr × Nat} {w wa : World} {L : List Nat} (h : OwnT a x wa) (e1 : wa.heap.size = w.heap.size) (e2 : ∀ b, b ∉ L → wa.heap[b]? = w.heap[b]?) (hd : ∀ b ∈ blks (some x.1) x.2, b ∉ L) : OwnT a x w :=
  ⟨h.room, h.own.left e1 e2 hd, (World.cell?_of_block (by rw [block_of_add]; exact (e2 _ (hd _ (by rw [blks_some (by have := h.room; omega)]; simp))).symm)).trans h.last⟩
section
variable {a b : SV} {x y : Int} {K K1 K2 : Nat} {w : World}
theorem OwnT.i {o : Addr × Nat} {w0 : World} (h : OwnT a o w) (ha : IsI a x K w0) : IsI (ow a o) x K w := ⟨h.own.toIn, ha.zi, ha.le⟩
theorem own_f {B : Nat} (ha : IsI a x K w) (hK : K ≤ 1000000) (hN : B ≤ w.heap.size) :
    Calls Try.prog 42 #[a.val] w (CallPost w (fun o : (Addr × Nat) × Nat => (ow a o.1).val) fun o u => OwnT a o.1 u ∧ (∀ b ∈ blks (some o.1.1) o.1.2, B ≤ b ∧ b < o.2) ∧ o.2 ≤ u.heap.size ∧ B ≤ o.2) :=
  (iown_c w ha.inn (Nat.le_trans ha.le hK)).mono fun e w' h => by
    obtain ⟨ad, c, rfl, hc, o, h77, hb⟩ := h
    have hbl : ∀ b ∈ blks (some ad) c, w.heap.size ≤ b ∧ b < w'.heap.size := fun b hb => by
      obtain ⟨h1, _, _, _, h2⟩ := o.blk b hb
      exact ⟨h1, (Array.getElem?_eq_some_iff.1 h2).1⟩
    have hm : ad.block ∈ blks (some ad) c := by rw [blks_some (by omega)]; simp
    refine CallPost.freshN (val := fun o => (ow a o).val) (G := fun o u => OwnT a o u) ⟨(ad, c), rfl, hb, fun w'' h1 h2 => ⟨hc, (o.mid h1 h2).base (Nat.zero_le _), ?_⟩⟩ (fun o => blks (some o.1) o.2) (fun o u h b hb => (h.own.blk b hb).2) hN
    exact (World.cell?_of_block (by rw [block_of_add]; exact h2 _ (hbl _ hm).1 (hbl _ hm).2)).trans h77
theorem freshI {f : FuncId} {args : Array Value} {B : Nat} (h : Calls Try.prog f args w (CallPost w SV.val fun v u => IsN v x K u)) (hN : B ≤ w.heap.size) :
    Calls Try.prog f args w (CallPost w (fun o : SV × Nat => o.1.val) fun o u => IsN o.1 x K u ∧ (∀ b ∈ blks o.1.A o.1.c, B ≤ b ∧ b < o.2) ∧ o.2 ≤ u.heap.size ∧ B ≤ o.2) :=
  h.mono fun _ _ k => CallPost.freshN k (fun v => blks v.A v.c) (fun v u h b hb => (h.2.2.2.blk b hb).2) hN
theorem itoInt_m (ha : IsI a x K w) (hK : K ≤ 1000000) : Calls Try.prog 84 #[a.val] w (CallPost w (fun _ : Unit => .tuple #[.int .i64 (toV x), .bool (fitB x)]) fun _ _ => True) :=
  (itoInt_c w ha.inn (by have := ha.le; omega) ha.zi).mono fun _ _ h => h.post
theorem rtoInt_m (ha : IsI a x K w) (hK : K ≤ 1000000) : Calls Try.prog 85 #[a.val] w (CallPost w (fun _ : Unit => .tuple #[.int .i64 (toV x), .bool (fitB x)]) fun _ _ => True) :=
  (rtoInt_c w ha.inn (by have := ha.le; omega) ha.zi).mono fun _ _ h => h.post
theorem iisn_v {B : Bool} (hB : isn a.s a.l = B) (ha : IsI a x K w) : Calls Try.prog 88 #[a.val] w (CallPost w (fun _ : Unit => .bool B) fun _ _ => True) := by
  subst hB; exact (iisn_c w ha.inn).mono fun _ _ h => h.post
theorem kept_m {o : Addr × Nat} (h : OwnT a o w) (ha : IsI a x K w) : Calls Try.prog 54 #[(ow a o).val, a.val] w (CallPost w (fun _ : Unit => .bool true) fun _ _ => True) :=
  (ikept_t w h.own.toIn ha.inn h.last h.room).mono fun _ _ h => h.post
theorem wrap_u32 (d : Nat) : IntKind.u32.wrap ((d : Int) + 1) = (((d + 1) % 4294967296 : Nat) : Int) := by
  rw [IntKind.wrap_u32]; omega
theorem own_addr {v : SV} {B : Nat} {l : List Nat} (h : Own w B v.A v.n v.c l) (h0 : 0 < v.n) : ∃ g, v.A = some ⟨g, 0, none⟩ := by
  have hle := h.le
  obtain ⟨g, _, _, hA, _⟩ := h.own (by omega)
  exact ⟨g, hA⟩
theorem Own.cellAt {B g n c k : Nat} {A : Option Addr} {l : List Nat} (h : Own w B A n c l) (hA : A = some ⟨g, 0, none⟩) (hk : k < n) : w.cell? ⟨g, k, none⟩ = some (.int .u32 (dg l k : Nat)) := by
  subst hA
  obtain ⟨ad, hA, hc⟩ := h.toIn.at_ hk
  injection hA with hA
  subst hA
  rwa [Addr.add_mid, Nat.zero_add] at hc
/-- One digit of an own slice counted up. -/
theorem bump {v : SV} {B g k : Nat} {l : List Nat} (hg : v.A = some ⟨g, 0, none⟩) (h : Own w B v.A v.n v.c l) (hk : k < v.n) :
    ∃ w', (stS 53 ⟨g, k, none⟩ (.int .u32 (((dg l k + 1) % 4294967296 : Nat) : Int))).run Try.prog w = .ok .skip w' ∧ Chg (blks v.A v.c) w w' ∧
      ∀ w'', w'.heap.size ≤ w''.heap.size → (∀ b ∈ blks v.A v.c, w''.heap[b]? = w'.heap[b]?) → Own w'' B v.A v.n v.c (l.set k ((dg l k + 1) % 4294967296)) := by
  have hle := h.le
  rw [hg] at h ⊢
  obtain ⟨hr, ho⟩ := h.put1 hk (Nat.mod_lt (dg l k + 1) (by decide))
  exact ⟨_, hr, Chg.setCell (by rw [blks_some (by omega)]; simp) _, fun w'' k1 k2 => ho.same k1 k2⟩

set_option maxRecDepth 100000 in
set_option maxHeartbeats 4000000 in
theorem lawConstructors {z : Int} (ha : IsI a x K w) (hz : -9223372036854775808 ≤ z ∧ z ≤ 9223372036854775807) :
    Calls Try.prog 14 #[.bool a.s, .slice a.A a.n a.c, .int .i64 z] w (CallPost w (fun _ : Unit => .bool true) fun _ _ => True) := by
  by_cases h60 : a.n ≤ 60
  case neg =>
    refine Good.enter Try.func14 rfl ?_
    refine Good.run (by kernel_rfl) (stop := 1000) 1000 _ ?_
    refine Good.condr (decide ((a.n : Int) > 60)) true (by kernel_rfl) (by simp; omega) ?_
    refine Good.run (by kernel_rfl) (stop := 1000) 1000 _ ?_
    refine Good.callv (fun w1 hw h => iexample_m w1) (by kernel_rfl) (fun u => ?_)
    refine Good.run (by kernel_rfl) (stop := 1000) 1000 _ ?_
    refine Good.ret (v := .bool true) (by kernel_rfl) (fun w1 hw h => ⟨(), rfl, hw, fun _ _ _ => trivial⟩)
  have ia : IsI a x 60 w := ⟨ha.inn, ha.zi, h60⟩
  obtain ⟨B, hB⟩ : ∃ B, isn a.s a.l = B := ⟨_, rfl⟩
  refine Good.enter Try.func14 rfl ?_
  refine Good.run (by kernel_rfl) (stop := 1000) 1000 _ ?_
  refine Good.condr (decide ((a.n : Int) > 60)) false (by kernel_rfl) (by simp; omega) ?_
  refine Good.run (by kernel_rfl) (stop := 1000) 1000 _ ?_
  refine Good.callv (fun w1 hw h => own_f (ia.below hw) (by decide) hw.size) (by kernel_rfl) (fun o => ?_)
  refine Good.run (by kernel_rfl) (stop := 1000) 1000 _ ?_
  refine Good.callv (fun w1 hw h => freshI (inew_m (a := ow a o.1) (h.2.1.i ia) (by decide)) h.2.2.2.1) (by kernel_rfl) (fun m => ?_)
  refine Good.run (by kernel_rfl) (stop := 1000) 1000 _ ?_
  refine Good.callv (fun w1 hw h => itoInt_m (a := ow a o.1) (h.1.2.1.i ia) (by decide)) (by kernel_rfl) (fun u => ?_)
  refine Good.run (by kernel_rfl) (stop := 1000) 1000 _ ?_
  refine Good.callv (fun w1 hw h => rtoInt_m (ia.below hw) (by decide)) (by kernel_rfl) (fun u => ?_)
  refine Good.run (by kernel_rfl) (stop := 1000) 1000 _ ?_
  refine Good.callv (fun w1 hw h => rnew_m (ia.below hw) (by decide)) (by kernel_rfl) (fun r => ?_)
  refine Good.run (by kernel_rfl) (stop := 1000) 1000 _ ?_
  refine Good.callv (fun w1 hw h => isameM_nn (B := true) h.1.1.1.2.1 h.2 (by simp)) (by kernel_rfl) (fun u => ?_)
  refine Good.run (by kernel_rfl) (stop := 1000) 1000 _ ?_
  refine Good.callv (fun w1 hw h => fromInt_m z w1 hz.1 hz.2) (by kernel_rfl) (fun f => ?_)
  refine Good.run (by kernel_rfl) (stop := 1000) 1000 _ ?_
  refine Good.callv (fun w1 hw h => rfromInt_m z w1 hz.1 hz.2) (by kernel_rfl) (fun s => ?_)
  refine Good.run (by kernel_rfl) (stop := 1000) 1000 _ ?_
  refine Good.callv (fun w1 hw h => isameM_nn (B := true) h.1.2 h.2 (by simp)) (by kernel_rfl) (fun u => ?_)
  refine Good.run (by kernel_rfl) (stop := 1000) 1000 _ ?_
  refine Good.callv (fun w1 hw h => iisn_v (a := ow a o.1) hB (h.1.1.1.1.1.1.1.1.2.1.i ia)) (by kernel_rfl) (fun u => ?_)
  refine Good.run (by kernel_rfl) (stop := 1000) 1000 _ ?_
  refine Good.callv (fun w1 hw h => risn_v hB (ia.below hw)) (by kernel_rfl) (fun u => ?_)
  refine Good.run (by kernel_rfl) (stop := 18) 1000 _ ?_
  refine Good.slot 56 (.bool (B == B)) (.bool true) (by kernel_rfl) (by simp) ?_
  refine Good.run (by kernel_rfl) (stop := 1000) 1000 _ ?_
  refine Good.callv (fun w1 hw h => isign_m (a := ow a o.1) (h.1.1.1.1.1.1.1.1.1.1.2.1.i ia) (by decide)) (by kernel_rfl) (fun u => ?_)
  refine Good.run (by kernel_rfl) (stop := 1000) 1000 _ ?_
  refine Good.callv (fun w1 hw h => rsign_m (ia.below hw) (by decide)) (by kernel_rfl) (fun u => ?_)
  refine Good.run (by kernel_rfl) (stop := 25) 1000 _ ?_
  refine Good.slot 63 (.bool (sgn x == sgn x)) (.bool true) (by kernel_rfl) (by simp) ?_
  refine Good.run (by kernel_rfl) (stop := 1000) 1000 _ ?_
  refine Good.callv (fun w1 hw h => ibitLen_m (a := ow a o.1) (h.1.1.1.1.1.1.1.1.1.1.1.1.2.1.i ia) (by decide)) (by kernel_rfl) (fun u => ?_)
  refine Good.run (by kernel_rfl) (stop := 1000) 1000 _ ?_
  refine Good.callv (fun w1 hw h => rbitLen_m (ia.below hw) (by decide)) (by kernel_rfl) (fun u => ?_)
  refine Good.run (by kernel_rfl) (stop := 32) 1000 _ ?_
  refine Good.slot 70 (.bool (((bitsN x.natAbs : Nat) : Int) == ((bitsN x.natAbs : Nat) : Int))) (.bool true) (by kernel_rfl) (by simp) ?_
  refine Good.run (by kernel_rfl) (stop := 37) 1000 _ ?_
  refine Good.slot 75 (.bool (toV x == toV x)) (.bool true) (by kernel_rfl) (by simp) ?_
  refine Good.run (by kernel_rfl) (stop := 42) 1000 _ ?_
  refine Good.slot 80 (.bool (fitB x == fitB x)) (.bool true) (by kernel_rfl) (by simp) ?_
  refine Good.run (by kernel_rfl) (stop := 1000) 1000 _ ?_
  refine Good.pure_ (p := (0 < m.1.n → ∃ g, m.1.A = some ⟨g, 0, none⟩) ∧ (∀ b ∈ blks (some o.1.1) o.1.2, b < o.2) ∧ (∀ b ∈ blks m.1.A m.1.c, o.2 ≤ b) ∧ w.heap.size ≤ o.2 ∧ m.1.n ≤ 60) (fun w1 hw h => ⟨fun h0 => own_addr h.1.1.1.1.1.1.1.1.1.1.1.1.1.2.1.2.2.2 h0, fun b hb => (h.1.1.1.1.1.1.1.1.1.1.1.1.1.1.2.2.1 b hb).2, fun b hb => (h.1.1.1.1.1.1.1.1.1.1.1.1.1.2.2.1 b hb).1, h.1.1.1.1.1.1.1.1.1.1.1.1.1.1.2.2.2.2, h.1.1.1.1.1.1.1.1.1.1.1.1.1.2.1.i.le⟩) (by kernel_rfl) (fun hp => ?_)
  refine Good.loop (ι := {q : Nat × List Nat // q.1 ≤ m.1.n}) 105 (fun i => ⟨[(7, .p 7 0), (8, .p 8 0), (9, .p 9 0), (14, .v (.bool true)), (84, .v (.int .i64 m.1.n)), (85, .v (.int .i64 i.1.1))], [(7, [.v (.bool a.s), .v (.slice a.A a.n a.c)]), (8, [.v (.bool a.s), .v (.slice (some o.1.1) a.n o.1.2)]), (9, [.v (.bool m.1.s), .v (.slice m.1.A m.1.n m.1.c)])]⟩) (fun i u => OwnT a o.1 u ∧ Own u w.heap.size m.1.A m.1.n m.1.c i.1.2) (fun i => m.1.n - i.1.1) (⟨(0, m.1.l), Nat.zero_le _⟩) (by kernel_rfl) (fun _ => by kernel_rfl) ⟨by kernel_rfl, by kernel_rfl, by kernel_rfl⟩ (fun u h => ⟨h.1.1.1.1.1.1.1.1.1.1.1.1.1.1.2.1, (h.1.1.1.1.1.1.1.1.1.1.1.1.1.2.1.2.2.2).rebase fun b hb => Nat.le_trans hp.2.2.2.1 (hp.2.2.1 b hb)⟩) ?_
  rintro ⟨⟨k, l⟩, hk⟩ gg
  by_cases hlt : k < m.1.n
  · obtain ⟨g, hg⟩ := hp.1 (by omega)
    refine Good.run (by kernel_rfl) (stop := 1000) 1000 _ ?_
    refine Good.condr (decide ((k : Int) < (m.1.n : Int))) true (by kernel_rfl) (by simp; omega) ?_
    refine Good.run (by kernel_rfl) (stop := 1000) 1000 _ ?_
    refine Good.ask (idxS 22 (.slice m.1.A m.1.n m.1.c) k) (.pointer (some ⟨g, k, none⟩)) (by kernel_rfl) (fun w1 hw h => run_idx1 (elem := 53) hg (by kernel_rfl) (by kernel_rfl) hlt) ?_
    refine Good.run (by kernel_rfl) (stop := 1000) 1000 _ ?_
    refine Good.ask (ldS 53 ⟨g, k, none⟩) (.int .u32 (dg l k)) (by kernel_rfl) (fun w1 hw h => run_ldS (by kernel_rfl) (h.2.cellAt hg hlt)) ?_
    refine Good.run (by kernel_rfl) (stop := 1000) 1000 _ ?_
    refine Good.ask (idxS 22 (.slice m.1.A m.1.n m.1.c) k) (.pointer (some ⟨g, k, none⟩)) (by kernel_rfl) (fun w1 hw h => run_idx1 (elem := 53) hg (by kernel_rfl) (by kernel_rfl) hlt) ?_
    refine Good.run (by kernel_rfl) (stop := 1000) 1000 _ ?_
    refine Good.slot 93 (.int .u32 (IntKind.u32.wrap ((dg l k : Int) + 1))) (.int .u32 (((dg l k + 1) % 4294967296 : Nat) : Int)) (by kernel_rfl) (by rw [wrap_u32]) ?_
    refine Good.mutSt (L := blks m.1.A m.1.c) (Φ' := fun u => OwnT a o.1 u ∧ Own u w.heap.size m.1.A m.1.n m.1.c (l.set k ((dg l k + 1) % 4294967296))) (stS 53 ⟨g, k, none⟩ (.int .u32 (((dg l k + 1) % 4294967296 : Nat) : Int))) (fun w1 hw h => bump hg h.2 hlt) (fun u h b hb => h.2.blk b hb) (fun wa u e1 e2 h hG => ⟨h.1.left e1 e2 fun b hb hb' => ?_, hG⟩) (by kernel_rfl) (by kernel_rfl) ?_
    · have := hp.2.1 b hb
      have := hp.2.2.1 b hb'
      omega
    refine Good.run (by kernel_rfl) (stop := 1000) 1000 _ ?_
    refine Good.slot 85 (.int .i64 (IntKind.i64.wrap ((k : Int) + 1))) (.int .i64 ((k + 1 : Nat) : Int)) (by kernel_rfl) (by rw [wrap_succ hlt (by have := hp.2.2.2.2; omega)]) ?_
    refine Good.next (⟨(k + 1, l.set k ((dg l k + 1) % 4294967296)), by show k + 1 ≤ m.1.n; omega⟩) (by kernel_rfl) (by show m.1.n - (k + 1) < m.1.n - k; omega) ⟨by kernel_rfl, by kernel_rfl, by kernel_rfl⟩ (fun _ h => h)
  ·
    refine Good.run (by kernel_rfl) (stop := 1000) 1000 _ ?_
    refine Good.condr (decide ((k : Int) < (m.1.n : Int))) false (by kernel_rfl) (by simp at hlt ⊢; omega) ?_
    refine Good.run (by kernel_rfl) (stop := 1000) 1000 _ ?_
    refine Good.leave (by kernel_rfl) ?_
    refine Good.run (by kernel_rfl) (stop := 1000) 1000 _ ?_
    refine Good.callv (fun w1 hw h => kept_m (o := o.1) h.1 (ia.below hw)) (by kernel_rfl) (fun u => ?_)
    refine Good.run (by kernel_rfl) (stop := 1000) 1000 _ ?_
    refine Good.callv (fun w1 hw h => iexample_m w1) (by kernel_rfl) (fun u => ?_)
    refine Good.run (by kernel_rfl) (stop := 1000) 1000 _ ?_
    refine Good.ret (v := .bool true) (by kernel_rfl) (fun w1 hw h => ⟨(), rfl, hw, fun _ _ _ => trivial⟩)
end

def fldS (t : TypeId) (p : Addr) (f : Nat) : Sem Next := Instr.fieldAt t (.pointer (some p)) f >>= fun v => pure (.value v)
theorem run_fldS {P : Program} {t : TypeId} {g off f d : Nat} {w : World} (h : effField P t f 0 off = some ⟨.p 0 (off + d), none⟩) : (fldS t ⟨g, off, none⟩ f).run P w = .ok (.value (.pointer (some ⟨g, off + d, none⟩))) w := by
  unfold effField at h
  split at h
  · rename_i fs hu
    split at h
    · rename_i fd hf
      split at h
      · rename_i n hn
        injection h with h
        injection h with h _
        injection h with _ h
        have hrun : (Instr.fieldAt t (.pointer (some ⟨g, off, none⟩)) f).run P w = .ok (.pointer (some ⟨g, off + fd.offset, none⟩)) w := by
          simp only [Instr.fieldAt, Sem.run_bind, run_underlying hu, Result.andThen_ok, hf, Instr.sureAddr, Sem.run_pure, fieldPlace, run_sizeT hn, Nat.add_one_ne_zero, if_false, Addr.add_mid]
        simp only [fldS, Sem.run_bind, hrun, Result.andThen_ok, Sem.run_pure, h]
      · cases h
    · cases h
  · cases h
def SV.cl (v : SV) : List Value := [.bool v.s, .slice v.A v.n v.c]
/-- A row of integers' structs. -/
def IntsAt (w : World) (g : Nat) (L : List SV) : Prop := ∀ k r, L[k]? = some r → w.rangeAt g (k * 2) r.cl
theorem cl2_at : ∀ (L : List SV) (k j : Nat) (r : SV) (v : Value), L[k]? = some r → r.cl[j]? = some v → (L.flatMap SV.cl)[k * 2 + j]? = some v := by
  intro L
  induction L with
  | nil => intro k j r v h; cases h
  | cons x L ih =>
    intro k j r v h hv
    have hj : j < 2 := (List.getElem?_eq_some_iff.1 hv).1
    rw [List.flatMap_cons]
    cases k with
    | zero =>
      obtain rfl : x = r := by simpa using h
      rw [List.getElem?_append_left (by show 0 * 2 + j < 2; omega), Nat.zero_mul, Nat.zero_add]
      exact hv
    | succ k =>
      rw [List.getElem?_append_right (by show 2 ≤ (k + 1) * 2 + j; omega), show (k + 1) * 2 + j - x.cl.length = k * 2 + j by show (k + 1) * 2 + j - 2 = _; omega]
      exact ih k j r v (by simpa using h) hv
theorem ints_lit {t : TypeId} {g : Nat} {L : List SV} {w : World} (h : litG t (L.flatMap SV.cl).toArray g w) : IntsAt w g L := by
  intro k r hk j v hv
  unfold litG at h
  simp only [World.cell?, h, Option.isSome_none, Bool.false_eq_true, if_false]
  rw [List.getElem?_toArray]
  exact cl2_at L k j r v hk hv
theorem IntsAt.left {w wa : World} {g : Nat} {L : List SV} {S : List Nat} (h : IntsAt wa g L) (e2 : ∀ b, b ∉ S → wa.heap[b]? = w.heap[b]?) (hg : g ∉ S) : IntsAt w g L := fun k r hk j v hv =>
  (World.cell?_of_block (a := ⟨g, k * 2 + j, none⟩) (e2 g hg).symm).trans (h k r hk j v hv)
theorem IsN.left {v : SV} {x : Int} {K : Nat} {w wa : World} {S : List Nat} (h : IsN v x K wa) (e1 : wa.heap.size = w.heap.size) (e2 : ∀ b, b ∉ S → wa.heap[b]? = w.heap[b]?) (hd : ∀ b ∈ blks v.A v.c, b ∉ S) : IsN v x K w :=
  have ho := h.2.2.2.left e1 e2 hd
  ⟨⟨ho.toIn, h.1.zi, h.1.le⟩, h.2.1, h.2.2.1, ho⟩
/-- The numbers' blocks lie in this order, from N to M. -/
def AscI : Nat → List SV → Nat → Prop
  | N, [], M => N ≤ M
  | N, r :: L, M => ∃ N', N ≤ N' ∧ (∀ b ∈ blks r.A r.c, N ≤ b ∧ b < N') ∧ AscI N' L M
theorem AscI.le : ∀ {L : List SV} {N M : Nat}, AscI N L M → N ≤ M
  | [], _, _, h => h
  | _ :: _, _, _, ⟨_, h1, _, h3⟩ => Nat.le_trans h1 h3.le
theorem AscI.bd : ∀ {L : List SV} {N M : Nat}, AscI N L M → ∀ r ∈ L, ∀ b ∈ blks r.A r.c, N ≤ b ∧ b < M
  | [], _, _, _, _, h => by cases h
  | x :: L, N, M, ⟨N', h1, h2, h3⟩, r, hr => by
    intro b hb
    rcases List.mem_cons.1 hr with rfl | hr
    · exact ⟨(h2 b hb).1, Nat.lt_of_lt_of_le (h2 b hb).2 h3.le⟩
    · exact ⟨Nat.le_trans h1 (h3.bd r hr b hb).1, (h3.bd r hr b hb).2⟩
theorem AscI.apart : ∀ {L : List SV} {N M : Nat}, AscI N L M → ∀ (j i : Nat) (r s : SV), j < i → L[j]? = some r → L[i]? = some s → ∀ b ∈ blks r.A r.c, b ∉ blks s.A s.c
  | [], _, _, _, _, _, _, _, _, h, _ => by cases h
  | x :: L, N, M, ⟨N', h1, h2, h3⟩, j, i, r, s, hji, hj, hi => by
    intro b hb hb'
    obtain ⟨i, rfl⟩ : ∃ i', i = i' + 1 := ⟨i - 1, by omega⟩
    replace hi : L[i]? = some s := by simpa using hi
    cases j with
    | zero =>
      obtain rfl : x = r := by simpa using hj
      have := (h2 b hb).2
      have := (h3.bd s (List.mem_of_getElem? hi) b hb').1
      omega
    | succ j => exact h3.apart j i r s (by omega) (by simpa using hj) hi b hb hb'
section
variable {a b : SV} {x y : Int} {K K1 K2 : Nat} {w : World}
theorem same_eq {r s : SV} (h : ∃ (p : Int) (K1 K2 : Nat), IsN r p K1 w ∧ IsN s p K2 w) : Calls Try.prog 53 #[r.val, s.val] w (CallPost w (fun _ : Unit => .bool true) fun _ _ => True) := by
  obtain ⟨p, K1, K2, h1, h2⟩ := h
  exact isameM_nn h1 h2 (by simp)
/-- The blocks that the law knows lie apart. -/
structure OvP (W : World) (o o2 : Addr × Nat) (g g2 : Nat) (L M : List SV) : Prop where
  apart : ∀ (j i : Nat) (r s : SV), j < i → L[j]? = some r → L[i]? = some s → ∀ b ∈ blks r.A r.c, b ∉ blks s.A s.c
  new : ∀ r ∈ L, (∀ b ∈ blks r.A r.c, W.heap.size ≤ b ∧ b ∉ blks (some o.1) o.2 ∧ b ∉ blks (some o2.1) o2.2 ∧ b ≠ g ∧ b ≠ g2 ∧ ∀ s ∈ M, b ∉ blks s.A s.c) ∧ (0 < r.n → ∃ q, r.A = some ⟨q, 0, none⟩) ∧ r.n ≤ 1000
structure OvK (a b : SV) (o o2 : Addr × Nat) (g g2 : Nat) (L M : List SV) (k : Nat) (u : World) : Prop where
  ox : OwnT a o u
  oy : OwnT b o2 u
  row : IntsAt u g L
  row2 : IntsAt u g2 M
  eq : ∀ (j : Nat) (r s : SV), k ≤ j → L[j]? = some r → M[j]? = some s → ∃ (p : Int) (K1 K2 : Nat), IsN r p K1 u ∧ IsN s p K2 u
theorem OvK.next {o o2 : Addr × Nat} {g g2 k : Nat} {L M : List SV} {u : World} (h : OvK a b o o2 g g2 L M k u) : OvK a b o o2 g g2 L M (k + 1) u :=
  ⟨h.ox, h.oy, h.row, h.row2, fun j r s hj => h.eq j r s (by omega)⟩
theorem OvK.left {W : World} {o o2 : Addr × Nat} {g g2 k : Nat} {L M : List SV} {r : SV} {u wa : World} (hp : OvP W o o2 g g2 L M) (hr : L[k]? = some r) (h : OvK a b o o2 g g2 L M (k + 1) wa) (e1 : wa.heap.size = u.heap.size) (e2 : ∀ q, q ∉ blks r.A r.c → wa.heap[q]? = u.heap[q]?) : OvK a b o o2 g g2 L M (k + 1) u := by
  have hn := (hp.new r (List.mem_of_getElem? hr)).1
  refine ⟨h.ox.left e1 e2 fun q hq hq' => (hn q hq').2.1 hq, h.oy.left e1 e2 fun q hq hq' => (hn q hq').2.2.1 hq, h.row.left e2 fun hg => (hn g hg).2.2.2.1 rfl, h.row2.left e2 fun hg => (hn g2 hg).2.2.2.2.1 rfl, fun j r' s hj h1 h2 => ?_⟩
  obtain ⟨p, K1, K2, k1, k2⟩ := h.eq j r' s hj h1 h2
  exact ⟨p, K1, K2, k1.left e1 e2 fun q hq hq' => hp.apart k j r r' (by omega) hr h1 q hq' hq, k2.left e1 e2 fun q hq hq' => (hn q hq').2.2.2.2.2 s (List.mem_of_getElem? h2) hq⟩
theorem pairs4 {P : SV → SV → Prop} {r1 r2 r3 r4 s1 s2 s3 s4 : SV} (h1 : P r1 s1) (h2 : P r2 s2) (h3 : P r3 s3) (h4 : P r4 s4) :
    ∀ (k : Nat) (r s : SV), [r1, r2, r3, r4][k]? = some r → [s1, s2, s3, s4][k]? = some s → P r s := by
  intro k r s hk hs
  rcases k with _ | _ | _ | _ | k
  · cases hk; cases hs; exact h1
  · cases hk; cases hs; exact h2
  · cases hk; cases hs; exact h3
  · cases hk; cases hs; exact h4
  · cases hk
theorem all4 {P : SV → Prop} {r1 r2 r3 r4 : SV} (h1 : P r1) (h2 : P r2) (h3 : P r3) (h4 : P r4) : ∀ r ∈ [r1, r2, r3, r4], P r := by
  intro r hr
  simp only [List.mem_cons, List.not_mem_nil, or_false] at hr
  rcases hr with rfl | rfl | rfl | rfl <;> assumption

set_option maxRecDepth 100000 in
set_option maxHeartbeats 4000000 in
theorem lawArithI (ha : IsI a x K1 w) (hb : IsI b y K2 w) :
    Calls Try.prog 7 #[a.val, b.val] w (CallPost w (fun _ : Unit => .bool true) fun _ _ => True) := by
  cases hf : fewB 40 [a, b]
  case false =>
    refine Good.enter Try.func7 rfl ?_
    refine Good.run (by kernel_rfl) (stop := 1000) 1000 _ ?_
    refine Good.make (litS (51) 2 #[(0, a.val), (1, b.val)]) (litV 2) (litG 24 #[.bool a.s, .slice a.A a.n a.c, .bool b.s, .slice b.A b.n b.c]) (by kernel_rfl) (fun w1 hw h => make_lit (by kernel_rfl)) (fun g => ?_)
    refine Good.run (by kernel_rfl) (stop := 1000) 1000 _ ?_
    refine Good.callv (fun w1 hw h => few2_m (most := 40) hf (by decide) h.2 ha.lenI hb.lenI) (by kernel_rfl) (fun u => ?_)
    refine Good.run (by kernel_rfl) (stop := 1000) 1000 _ ?_
    refine Good.cond true (by kernel_rfl) ?_
    refine Good.run (by kernel_rfl) (stop := 1000) 1000 _ ?_
    refine Good.callv (fun w1 hw h => iexample_m w1) (by kernel_rfl) (fun u => ?_)
    refine Good.run (by kernel_rfl) (stop := 1000) 1000 _ ?_
    refine Good.ret (v := .bool true) (by kernel_rfl) (fun w1 hw h => ⟨(), rfl, hw, fun _ _ _ => trivial⟩)
  replace ha : IsI a x 40 w := ⟨ha.inn, ha.zi, by simp only [fewB, List.all_cons, Bool.and_eq_true, decide_eq_true_eq] at hf; exact hf.1⟩
  replace hb : IsI b y 40 w := ⟨hb.inn, hb.zi, by simp only [fewB, List.all_cons, Bool.and_eq_true, decide_eq_true_eq] at hf; exact hf.2.1⟩
  refine Good.enter Try.func7 rfl ?_
  refine Good.run (by kernel_rfl) (stop := 1000) 1000 _ ?_
  refine Good.make (litS (51) 2 #[(0, a.val), (1, b.val)]) (litV 2) (litG 24 #[.bool a.s, .slice a.A a.n a.c, .bool b.s, .slice b.A b.n b.c]) (by kernel_rfl) (fun w1 hw h => make_lit (by kernel_rfl)) (fun g0 => ?_)
  refine Good.run (by kernel_rfl) (stop := 1000) 1000 _ ?_
  refine Good.callv (fun w1 hw h => few2_m (most := 40) hf (by decide) h.2 ha.lenI hb.lenI) (by kernel_rfl) (fun u => ?_)
  refine Good.run (by kernel_rfl) (stop := 1000) 1000 _ ?_
  refine Good.cond false (by kernel_rfl) ?_
  refine Good.run (by kernel_rfl) (stop := 1000) 1000 _ ?_
  refine Good.callv (fun w1 hw h => own_f (ha.below hw) (by decide) hw.size) (by kernel_rfl) (fun o => ?_)
  refine Good.run (by kernel_rfl) (stop := 1000) 1000 _ ?_
  refine Good.callv (fun w1 hw h => own_f (hb.below hw) (by decide) h.2.2.2.1) (by kernel_rfl) (fun o2 => ?_)
  refine Good.run (by kernel_rfl) (stop := 1000) 1000 _ ?_
  refine Good.callv (fun w1 hw h => icmp_m (a := ow a o.1) (b := ow b o2.1) (h.1.2.1.i ha) (h.2.1.i hb) (by decide)) (by kernel_rfl) (fun u => ?_)
  refine Good.run (by kernel_rfl) (stop := 1000) 1000 _ ?_
  refine Good.callv (fun w1 hw h => rcmp_m (ha.below hw) (hb.below hw) (by decide)) (by kernel_rfl) (fun u => ?_)
  refine Good.run (by kernel_rfl) (stop := 1000) 1000 _ ?_
  refine Good.condr (sgn (x - y) != sgn (x - y)) false (by kernel_rfl) (by simp) ?_
  refine Good.run (by kernel_rfl) (stop := 1000) 1000 _ ?_
  refine Good.callv (fun w1 hw h => freshI (ineg_m (a := ow a o.1) (h.1.1.1.2.1.i ha) (by decide)) h.1.1.2.2.2.1) (by kernel_rfl) (fun n1 => ?_)
  refine Good.run (by kernel_rfl) (stop := 1000) 1000 _ ?_
  refine Good.callv (fun w1 hw h => freshI (iadd_m (a := ow a o.1) (b := ow b o2.1) (h.1.1.1.1.2.1.i ha) (h.1.1.1.2.1.i hb) (by decide)) h.2.2.2.1) (by kernel_rfl) (fun n2 => ?_)
  refine Good.run (by kernel_rfl) (stop := 1000) 1000 _ ?_
  refine Good.callv (fun w1 hw h => freshI (isub_m (a := ow a o.1) (b := ow b o2.1) (h.1.1.1.1.1.2.1.i ha) (h.1.1.1.1.2.1.i hb) (by decide)) h.2.2.2.1) (by kernel_rfl) (fun n3 => ?_)
  refine Good.run (by kernel_rfl) (stop := 1000) 1000 _ ?_
  refine Good.callv (fun w1 hw h => freshI (imul_m (a := ow a o.1) (b := ow b o2.1) (h.1.1.1.1.1.1.2.1.i ha) (h.1.1.1.1.1.2.1.i hb) (by decide)) h.2.2.2.1) (by kernel_rfl) (fun n4 => ?_)
  refine Good.run (by kernel_rfl) (stop := 1000) 1000 _ ?_
  refine Good.make (litS 51 4 #[(0, n1.1.val), (1, n2.1.val), (2, n3.1.val), (3, n4.1.val)]) (litV 4) (fun g u => litG 24 ([n1.1, n2.1, n3.1, n4.1].flatMap SV.cl).toArray g u ∧ n4.2 ≤ g) (by kernel_rfl) (fun w1 hw h => make_litN (by kernel_rfl) h.2.2.2.1) (fun g => ?_)
  refine Good.run (by kernel_rfl) (stop := 1000) 1000 _ ?_
  refine Good.callv (fun w1 hw h => freshI (rneg_m (ha.below hw) (by decide)) h.1.2.2.2.1) (by kernel_rfl) (fun m1 => ?_)
  refine Good.run (by kernel_rfl) (stop := 1000) 1000 _ ?_
  refine Good.callv (fun w1 hw h => freshI (radd_m (ha.below hw) (hb.below hw) (by decide)) h.1.1.2.2.2.1) (by kernel_rfl) (fun m2 => ?_)
  refine Good.run (by kernel_rfl) (stop := 1000) 1000 _ ?_
  refine Good.callv (fun w1 hw h => freshI (rsub_m (ha.below hw) (hb.below hw) (by decide)) h.1.1.1.2.2.2.1) (by kernel_rfl) (fun m3 => ?_)
  refine Good.run (by kernel_rfl) (stop := 1000) 1000 _ ?_
  refine Good.callv (fun w1 hw h => freshI (rmul_m (ha.below hw) (hb.below hw) (by decide)) h.1.1.1.1.2.2.2.1) (by kernel_rfl) (fun m4 => ?_)
  refine Good.run (by kernel_rfl) (stop := 1000) 1000 _ ?_
  refine Good.make (litS 51 4 #[(0, m1.1.val), (1, m2.1.val), (2, m3.1.val), (3, m4.1.val)]) (litV 4) (fun g u => litG 24 ([m1.1, m2.1, m3.1, m4.1].flatMap SV.cl).toArray g u ∧ n4.2 ≤ g) (by kernel_rfl) (fun w1 hw h => make_litN (by kernel_rfl) h.1.1.1.1.1.2.2.2.1) (fun g2 => ?_)
  refine Good.run (by kernel_rfl) (stop := 1000) 1000 _ ?_
  obtain ⟨L, hL⟩ : ∃ L, L = [n1.1, n2.1, n3.1, n4.1] := ⟨_, rfl⟩
  obtain ⟨M, hM⟩ : ∃ M, M = [m1.1, m2.1, m3.1, m4.1] := ⟨_, rfl⟩
  have hLn : L.length = 4 := by rw [hL]; rfl
  have hMn : M.length = 4 := by rw [hM]; rfl
  refine Good.pure_ (p := OvP w o.1 o2.1 g g2 L M) (fun w1 hw h => ?_) (by kernel_rfl) (fun hp => ?_)
  · have hasc : AscI o2.2 L n4.2 := by rw [hL]; exact ⟨n1.2, h.1.1.1.1.1.1.1.1.1.2.2.2.2, h.1.1.1.1.1.1.1.1.1.2.2.1, n2.2, h.1.1.1.1.1.1.1.1.2.2.2.2, h.1.1.1.1.1.1.1.1.2.2.1, n3.2, h.1.1.1.1.1.1.1.2.2.2.2, h.1.1.1.1.1.1.1.2.2.1, n4.2, h.1.1.1.1.1.1.2.2.2.2, h.1.1.1.1.1.1.2.2.1, Nat.le_refl _⟩
    have hown : ∀ r ∈ L, (0 < r.n → ∃ q, r.A = some ⟨q, 0, none⟩) ∧ r.n ≤ 1000 := by
      rw [hL]
      exact all4 ⟨own_addr h.1.1.1.1.1.1.1.1.1.2.1.2.2.2, Nat.le_trans h.1.1.1.1.1.1.1.1.1.2.1.i.le (by decide)⟩ ⟨own_addr h.1.1.1.1.1.1.1.1.2.1.2.2.2, Nat.le_trans h.1.1.1.1.1.1.1.1.2.1.i.le (by decide)⟩ ⟨own_addr h.1.1.1.1.1.1.1.2.1.2.2.2, Nat.le_trans h.1.1.1.1.1.1.1.2.1.i.le (by decide)⟩ ⟨own_addr h.1.1.1.1.1.1.2.1.2.2.2, Nat.le_trans h.1.1.1.1.1.1.2.1.i.le (by decide)⟩
    have hMb : ∀ s ∈ M, ∀ b ∈ blks s.A s.c, n4.2 ≤ b := by
      rw [hM]
      exact all4 (fun b hb => (h.1.1.1.1.2.2.1 b hb).1) (fun b hb => (h.1.1.1.2.2.1 b hb).1) (fun b hb => (h.1.1.2.2.1 b hb).1) (fun b hb => (h.1.2.2.1 b hb).1)
    have q1 : w.heap.size ≤ o.2 := h.1.1.1.1.1.1.1.1.1.1.1.1.1.2.2.2.2
    have q2 : o.2 ≤ o2.2 := h.1.1.1.1.1.1.1.1.1.1.1.1.2.2.2.2
    have q3 := h.1.1.1.1.1.2.2
    have q4 := h.2.2
    have q5 := h.1.1.1.1.1.1.1.1.1.1.1.1.1.2.2.1
    have q6 := h.1.1.1.1.1.1.1.1.1.1.1.1.2.2.1
    refine ⟨hasc.apart, fun r hr => ⟨fun b hb => ?_, hown r hr⟩⟩
    obtain ⟨b1, b2⟩ := hasc.bd r hr b hb
    exact ⟨by omega, fun k => by have := (q5 b k).2; omega, fun k => by have := (q6 b k).2; omega, by omega, by omega, fun s hs k => by have := hMb s hs b k; omega⟩
  refine Good.loop (ι := {k : Nat // k ≤ 4}) 99 (fun i => ⟨[(2, .p 2 0), (3, .p 3 0), (5, .p 5 0), (6, .p 6 0), (7, .v (litV 4 g)), (8, .v (litV 4 g2)), (53, .v (.int .i64 4)), (54, .v (.int .i64 i.1))], [(2, a.cl.map .v), (3, b.cl.map .v), (5, (ow a o.1).cl.map .v), (6, (ow b o2.1).cl.map .v)]⟩) (fun i => OvK a b o.1 o2.1 g g2 L M i.1) (fun i => 4 - i.1) (⟨0, by omega⟩) (by kernel_rfl) (fun _ => by kernel_rfl) ⟨by kernel_rfl, by kernel_rfl, by kernel_rfl⟩ (fun u h => ⟨h.1.1.1.1.1.1.1.1.1.1.1.1.1.2.1, h.1.1.1.1.1.1.1.1.1.1.1.1.2.1, by rw [hL]; exact ints_lit h.1.1.1.1.1.2.1, by rw [hM]; exact ints_lit h.2.1, fun j r s _ h1 h2 => by rw [hL] at h1; rw [hM] at h2; exact pairs4 (P := fun r s => ∃ (p : Int) (K1 K2 : Nat), IsN r p K1 u ∧ IsN s p K2 u) ⟨_, _, _, h.1.1.1.1.1.1.1.1.1.2.1, h.1.1.1.1.2.1⟩ ⟨_, _, _, h.1.1.1.1.1.1.1.1.2.1, h.1.1.1.2.1⟩ ⟨_, _, _, h.1.1.1.1.1.1.1.2.1, h.1.1.2.1⟩ ⟨_, _, _, h.1.1.1.1.1.1.2.1, h.1.2.1⟩ j r s h1 h2⟩) ?_
  rintro ⟨k, hk⟩ gg
  by_cases hlt : k < 4
  ·
    refine Good.run (by kernel_rfl) (stop := 1000) 1000 _ ?_
    refine Good.condr (decide ((k : Int) < 4)) true (by kernel_rfl) (by simp; omega) ?_
    refine Good.run (by kernel_rfl) (stop := 1000) 1000 _ ?_
    obtain ⟨r, hr⟩ : ∃ r, L[k]? = some r := ⟨_, List.getElem?_eq_getElem (by omega)⟩
    obtain ⟨s, hs⟩ : ∃ s, M[k]? = some s := ⟨_, List.getElem?_eq_getElem (by omega)⟩
    have hrn := hp.new r (List.mem_of_getElem? hr)
    refine Good.askAt 2 (idxS 51 (litV 4 g) k) (.pointer (some ⟨g, k * 2, none⟩)) (by kernel_rfl) (fun w1 hw h => run_idxN (elem := 24) (by kernel_rfl) (by kernel_rfl) hlt) ?_
    refine Good.run (by kernel_rfl) (stop := 1000) 1000 _ ?_
    refine Good.askAt 3 (ldS 24 ⟨g, k * 2, none⟩) (r.val) (by kernel_rfl) (fun w1 hw h => run_ldN (vs := r.cl) (by kernel_rfl) (by kernel_rfl) (h.row k r hr)) ?_
    refine Good.run (by kernel_rfl) (stop := 1000) 1000 _ ?_
    refine Good.askAt 6 (idxS 51 (litV 4 g2) k) (.pointer (some ⟨g2, k * 2, none⟩)) (by kernel_rfl) (fun w1 hw h => run_idxN (elem := 24) (by kernel_rfl) (by kernel_rfl) hlt) ?_
    refine Good.run (by kernel_rfl) (stop := 1000) 1000 _ ?_
    refine Good.askAt 7 (ldS 24 ⟨g2, k * 2, none⟩) (s.val) (by kernel_rfl) (fun w1 hw h => run_ldN (vs := s.cl) (by kernel_rfl) (by kernel_rfl) (h.row2 k s hs)) ?_
    refine Good.run (by kernel_rfl) (stop := 1000) 1000 _ ?_
    refine Good.callv (fun w1 hw h => same_eq (h.eq k r s (Nat.le_refl _) hr hs)) (by kernel_rfl) (fun u => ?_)
    refine Good.run (by kernel_rfl) (stop := 1000) 1000 _ ?_
    refine Good.cond false (by kernel_rfl) ?_
    refine Good.run (by kernel_rfl) (stop := 1000) 1000 _ ?_
    refine Good.ask (idxS 51 (litV 4 g) k) (.pointer (some ⟨g, k * 2, none⟩)) (by kernel_rfl) (fun w1 hw h => run_idxN (elem := 24) (by kernel_rfl) (by kernel_rfl) hlt) ?_
    refine Good.run (by kernel_rfl) (stop := 1000) 1000 _ ?_
    refine Good.ask (fldS 24 ⟨g, k * 2, none⟩ 1) (.pointer (some ⟨g, k * 2 + 1, none⟩)) (by kernel_rfl) (fun w1 hw h => run_fldS (d := 1) (by kernel_rfl)) ?_
    refine Good.run (by kernel_rfl) (stop := 1000) 1000 _ ?_
    refine Good.ask (ldS 22 ⟨g, k * 2 + 1, none⟩) (.slice r.A r.n r.c) (by kernel_rfl) (fun w1 hw h => run_ldS (by kernel_rfl) (h.1.row k r hr 1 _ rfl)) ?_
    refine Good.run (by kernel_rfl) (stop := 1000) 1000 _ ?_
    refine Good.loop (ι := {q : Nat × List Nat // q.1 ≤ r.n}) 99 (fun i => ⟨[(2, .p 2 0), (3, .p 3 0), (5, .p 5 0), (6, .p 6 0), (7, .v (litV 4 g)), (8, .v (litV 4 g2)), (53, .v (.int .i64 4)), (54, .v (.int .i64 k)), (9, .v (.int .i64 k)), (72, .v (.int .i64 r.n)), (73, .v (.int .i64 i.1.1))], [(2, a.cl.map .v), (3, b.cl.map .v), (5, (ow a o.1).cl.map .v), (6, (ow b o2.1).cl.map .v)]⟩) (fun i u => OvK a b o.1 o2.1 g g2 L M (k + 1) u ∧ Own u w.heap.size r.A r.n r.c i.1.2) (fun i => r.n - i.1.1) (⟨(0, r.l), Nat.zero_le _⟩) (by kernel_rfl) (fun _ => by kernel_rfl) ⟨by kernel_rfl, by kernel_rfl, by kernel_rfl⟩ (fun u h => ⟨h.1.next, by obtain ⟨p, k1, k2, h1, h2⟩ := h.1.eq k r s (Nat.le_refl _) hr hs; exact h1.2.2.2.rebase fun q hq => (hrn.1 q hq).1⟩) ?_
    rintro ⟨⟨j, l⟩, hj⟩ gg2
    by_cases hlt2 : j < r.n
    · obtain ⟨gr, hgr⟩ := hrn.2.1 (by omega)
      refine Good.run (by kernel_rfl) (stop := 1000) 1000 _ ?_
      refine Good.condr (decide ((j : Int) < (r.n : Int))) true (by kernel_rfl) (by simp; omega) ?_
      refine Good.run (by kernel_rfl) (stop := 1000) 1000 _ ?_
      refine Good.ask (idxS 51 (litV 4 g) k) (.pointer (some ⟨g, k * 2, none⟩)) (by kernel_rfl) (fun w1 hw h => run_idxN (elem := 24) (by kernel_rfl) (by kernel_rfl) hlt) ?_
      refine Good.run (by kernel_rfl) (stop := 1000) 1000 _ ?_
      refine Good.ask (fldS 24 ⟨g, k * 2, none⟩ 1) (.pointer (some ⟨g, k * 2 + 1, none⟩)) (by kernel_rfl) (fun w1 hw h => run_fldS (d := 1) (by kernel_rfl)) ?_
      refine Good.run (by kernel_rfl) (stop := 1000) 1000 _ ?_
      refine Good.ask (ldS 22 ⟨g, k * 2 + 1, none⟩) (.slice r.A r.n r.c) (by kernel_rfl) (fun w1 hw h => run_ldS (by kernel_rfl) (h.1.row k r hr 1 _ rfl)) ?_
      refine Good.run (by kernel_rfl) (stop := 1000) 1000 _ ?_
      refine Good.ask (idxS 22 (.slice r.A r.n r.c) j) (.pointer (some ⟨gr, j, none⟩)) (by kernel_rfl) (fun w1 hw h => run_idx1 (elem := 53) hgr (by kernel_rfl) (by kernel_rfl) hlt2) ?_
      refine Good.run (by kernel_rfl) (stop := 1000) 1000 _ ?_
      refine Good.ask (ldS 53 ⟨gr, j, none⟩) (.int .u32 (dg l j)) (by kernel_rfl) (fun w1 hw h => run_ldS (by kernel_rfl) (h.2.cellAt hgr hlt2)) ?_
      refine Good.run (by kernel_rfl) (stop := 1000) 1000 _ ?_
      refine Good.ask (idxS 22 (.slice r.A r.n r.c) j) (.pointer (some ⟨gr, j, none⟩)) (by kernel_rfl) (fun w1 hw h => run_idx1 (elem := 53) hgr (by kernel_rfl) (by kernel_rfl) hlt2) ?_
      refine Good.run (by kernel_rfl) (stop := 1000) 1000 _ ?_
      refine Good.slot 84 (.int .u32 (IntKind.u32.wrap ((dg l j : Int) + 1))) (.int .u32 (((dg l j + 1) % 4294967296 : Nat) : Int)) (by kernel_rfl) (by rw [wrap_u32]) ?_
      refine Good.mutSt (L := blks r.A r.c) (Φ' := fun u => OvK a b o.1 o2.1 g g2 L M (k + 1) u ∧ Own u w.heap.size r.A r.n r.c (l.set j ((dg l j + 1) % 4294967296))) (stS 53 ⟨gr, j, none⟩ (.int .u32 (((dg l j + 1) % 4294967296 : Nat) : Int))) (fun w1 hw h => bump hgr h.2 hlt2) (fun u h b hb => h.2.blk b hb) (fun wa u e1 e2 h hG => ⟨h.1.left hp hr e1 e2, hG⟩) (by kernel_rfl) (by kernel_rfl) ?_
      refine Good.run (by kernel_rfl) (stop := 1000) 1000 _ ?_
      refine Good.slot 73 (.int .i64 (IntKind.i64.wrap ((j : Int) + 1))) (.int .i64 ((j + 1 : Nat) : Int)) (by kernel_rfl) (by rw [wrap_succ hlt2 (by have := hrn.2.2; omega)]) ?_
      refine Good.next (⟨(j + 1, l.set j ((dg l j + 1) % 4294967296)), by show j + 1 ≤ r.n; omega⟩) (by kernel_rfl) (by show r.n - (j + 1) < r.n - j; omega) ⟨by kernel_rfl, by kernel_rfl, by kernel_rfl⟩ (fun _ h => h)
    ·
      refine Good.run (by kernel_rfl) (stop := 1000) 1000 _ ?_
      refine Good.condr (decide ((j : Int) < (r.n : Int))) false (by kernel_rfl) (by simp at hlt2 ⊢; omega) ?_
      refine Good.run (by kernel_rfl) (stop := 1000) 1000 _ ?_
      refine Good.leave (by kernel_rfl) ?_
      refine Good.run (by kernel_rfl) (stop := 1000) 1000 _ ?_
      refine Good.slot 54 (.int .i64 (IntKind.i64.wrap ((k : Int) + 1))) (.int .i64 ((k + 1 : Nat) : Int)) (by kernel_rfl) (by rw [wrap_succ hlt (by omega)]) ?_
      refine Good.next (⟨k + 1, by omega⟩) (by kernel_rfl) (by show 4 - (k + 1) < 4 - k; omega) ⟨by kernel_rfl, by kernel_rfl, by kernel_rfl⟩ (fun _ h => h.1)
  ·
    refine Good.run (by kernel_rfl) (stop := 1000) 1000 _ ?_
    refine Good.condr (decide ((k : Int) < 4)) false (by kernel_rfl) (by simp; omega) ?_
    refine Good.run (by kernel_rfl) (stop := 1000) 1000 _ ?_
    refine Good.leave (by kernel_rfl) ?_
    refine Good.run (by kernel_rfl) (stop := 1000) 1000 _ ?_
    refine Good.callv (fun w1 hw h => kept_m (o := o.1) h.ox (ha.below hw)) (by kernel_rfl) (fun u => ?_)
    refine Good.run (by kernel_rfl) (stop := 1000) 1000 _ ?_
    refine Good.callv (fun w1 hw h => kept_m (a := b) (o := o2.1) h.1.oy (hb.below hw)) (by kernel_rfl) (fun u => ?_)
    refine Good.run (by kernel_rfl) (stop := 1000) 1000 _ ?_
    refine Good.callv (fun w1 hw h => iexample_m w1) (by kernel_rfl) (fun u => ?_)
    refine Good.run (by kernel_rfl) (stop := 1000) 1000 _ ?_
    refine Good.ret (v := .bool true) (by kernel_rfl) (fun w1 hw h => ⟨(), rfl, hw, fun _ _ _ => trivial⟩)
end

end Go.Proofs.Ytjdcolaefhheaaa
