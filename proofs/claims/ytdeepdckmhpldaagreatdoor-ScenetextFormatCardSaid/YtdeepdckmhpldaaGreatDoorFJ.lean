/-
 Scenes as text: the program's Format.
-/
import Derived.Test.YtdeepdckmhpldaaGreatDoorFC
namespace Go.Proofs.YtdeepdckmhpldaaGreatDoor
set_option maxRecDepth 100000
set_option maxHeartbeats 8000000
set_option linter.unusedVariables false
set_option linter.unusedSimpArgs false
open Go.RowKit
def Ms : WS := [[110, 111, 114, 109, 97, 108], [109, 117, 108, 116, 105, 112, 108, 121], [115, 99, 114, 101, 101, 110], [111, 118, 101, 114, 108, 97, 121], [100, 97, 114, 107, 101, 110], [108, 105, 103, 104, 116, 101, 110], [100, 105, 102, 102, 101, 114, 101, 110, 99, 101], [101, 120, 99, 108, 117, 115, 105, 111, 110], [104, 97, 114, 100, 108, 105, 103, 104, 116], [104, 117, 101], [115, 97, 116, 117, 114, 97, 116, 105, 111, 110], [99, 111, 108, 111, 114], [108, 117, 109, 105, 110, 111, 115, 105, 116, 121]]
def R7 : WS := [[109, 105, 116, 101, 114], [98, 101, 118, 101, 108], [114, 111, 117, 110, 100]]
def U1 : WS := [[114, 111, 117, 110, 100], [98, 117, 116, 116], [115, 113, 117, 97, 114, 101]]
def Y9 (b : Bool) : List UInt8 := if b then [49] else [48]
def Kz (N : Nd) : WS :=
 if N.kind = 1 then [[103, 114, 111, 117, 112], K6 N.id, K6 N.dep, K6 (N.op.toNat : Int), Kd Ms 1 N.bl, Y9 N.iso, Y9 N.ko]
 else if N.kind = 2 then [[115, 104, 97, 112, 101], K6 N.id, K6 N.dep, Kd Lq 1 N.frule, N9 N.path]
 else [[105, 109, 97, 103, 101], K6 N.id, K6 N.dep, Kd P5 1 N.samp] ++ Xy N.im
def Qq (N : Nd) : WS := [116, 114, 97, 110, 115, 102, 111, 114, 109] :: Lp N.T
def Z6 (S : Sty) : WS := [K6 S.w, Kd R7 1 S.j, Kd U1 3 S.c, K6 S.m, K6 S.p, K6 (S.d.length : Int)] ++ S.d.map K6
def Re (N : Nd) : List WS := if N.clip.length = 0 then [] else [[[99, 108, 105, 112], Kd Lq 1 N.crule, N9 N.clip]]
def M8 (P : Pn) : WS := [102, 105, 108, 108] :: O1 P
def Km (S : Sty) (P : Pn) : WS := [115, 116, 114, 111, 107, 101] :: (Z6 S ++ O1 P)
def Rg (N : Nd) : List WS := Kz N :: Qq N :: (Re N ++ (N.fill.map M8 ++ N.stroke.map (Km N.sty)))
def Sp (S : Sc) : WS := [[115, 99, 101, 110, 101], K6 S.w, K6 S.h, Na S.bg]
def scL (S : Sc) : List (List UInt8) := Lc (Sp S) :: S.nds.flatMap fun N => (Rg N).map Lc
def scT (S : Sc) : List UInt8 := Lw (scL S)
section
open Go.RowKit
--ATNAMES
section
variable {w : World} {z x : Int} {A : Option Addr} {n c : Nat} {N : Nd} {q : ND} {K : Nat} {S : Sty} {y : Option Addr × Nat} {l : List Int} {B : Bool}
theorem names_join : Calls Tryz.prog 74 #[.string ⟨#[106, 111, 105, 110]⟩] w (K5 w (fun y : Nat => .tuple #[.slice (some ⟨y, 0, none⟩) 3 3, .int .i64 1]) fun y u => Kj u (some ⟨y, 0, none⟩) 3 R7) := by
 refine K0.enter Tryz.func74 rfl ?_
 refine ZR ?_
 refine ZI false ?_
 refine ZI false ?_
 refine ZI false ?_
 refine ZI true ?_
 refine K0.make (Ks (64) 3 #[(0, K3 [109, 105, 116, 101, 114]), (1, K3 [98, 101, 118, 101, 108]), (2, K3 [114, 111, 117, 110, 100])]) (Kb 3) (Kp 9 #[K3 [109, 105, 116, 101, 114], K3 [98, 101, 118, 101, 108], K3 [114, 111, 117, 110, 100]]) Zk (fun w1 hw h => K8 Zk) (fun y => ?_)
 refine ZR ?_
 refine ZV (.tuple #[.slice (some ⟨y, 0, none⟩) 3 3, .int .i64 1]) (fun w1 hw h => ⟨y, rfl, hw, fun w'' k1 k2 => L3 (h w'' k1 k2).2 rfl⟩)
theorem name_join (h1 : 1 ≤ z) (h2 : z < 1 + 3) : Calls Tryz.prog 36 #[.string ⟨#[106, 111, 105, 110]⟩, .int .i64 z] w (K5 w (fun _ : Unit => K3 (Kd R7 1 z)) fun _ _ => True) := by
 obtain ⟨k, hk⟩ : ∃ k : Nat, z = 1 + (k : Int) := ⟨(z - 1).toNat, by omega⟩
 have hlt : k < 3 := by omega
 obtain ⟨s, hs⟩ : ∃ s, R7[k]? = some s := ⟨_, List.getElem?_eq_getElem (show k < R7.length from hlt)⟩
 have hn : Kd R7 1 z = s := by
  unfold Kd
  rw [show (z - 1).toNat = k by omega, hs]; rfl
 rw [hn]
 refine K0.enter Tryz.func36 rfl ?_
 refine ZR ?_
 refine K0.callv (fun w1 hw h => names_join) Zk (fun y => ?_)
 refine K0.run Zk (stop := 1000) 7 _ ?_
 refine ZS 4 ?_
 refine K0.slot 15 (.int .i64 (IntKind.i64.wrap (z - 1))) (.int .i64 (k : Int)) Zk (by rw [IntWalk.i64_in _ Zo]; congr 1; omega) ?_
 refine K0.ask (Ke 64 (.slice (some ⟨y, 0, none⟩) 3 3) k) (.pointer (some ((⟨y, 0, none⟩ : Addr).add k))) Zk (fun w1 hw h => Kr (elem := 9) Zk Zk hlt) ?_
 refine ZS 5 ?_
 refine ZA (L7 9 ((⟨y, 0, none⟩ : Addr).add k)) (K3 s) (fun w1 hw h => K9 Zk (by obtain ⟨ad, q1, q2⟩ := h.2.2 k s hs; cases q1; exact q2)) ?_
 exact ZW (K3 s)
theorem names_cap : Calls Tryz.prog 74 #[.string ⟨#[99, 97, 112]⟩] w (K5 w (fun y : Nat => .tuple #[.slice (some ⟨y, 0, none⟩) 3 3, .int .i64 3]) fun y u => Kj u (some ⟨y, 0, none⟩) 3 U1) := by
 refine K0.enter Tryz.func74 rfl ?_
 refine ZR ?_
 refine ZI false ?_
 refine ZI false ?_
 refine ZI false ?_
 refine ZI false ?_
 refine K0.make (Ks (64) 3 #[(0, K3 [114, 111, 117, 110, 100]), (1, K3 [98, 117, 116, 116]), (2, K3 [115, 113, 117, 97, 114, 101])]) (Kb 3) (Kp 9 #[K3 [114, 111, 117, 110, 100], K3 [98, 117, 116, 116], K3 [115, 113, 117, 97, 114, 101]]) Zk (fun w1 hw h => K8 Zk) (fun y => ?_)
 refine ZR ?_
 refine ZV (.tuple #[.slice (some ⟨y, 0, none⟩) 3 3, .int .i64 3]) (fun w1 hw h => ⟨y, rfl, hw, fun w'' k1 k2 => L3 (h w'' k1 k2).2 rfl⟩)
theorem name_cap (h1 : 3 ≤ z) (h2 : z < 3 + 3) : Calls Tryz.prog 36 #[.string ⟨#[99, 97, 112]⟩, .int .i64 z] w (K5 w (fun _ : Unit => K3 (Kd U1 3 z)) fun _ _ => True) := by
 obtain ⟨k, hk⟩ : ∃ k : Nat, z = 3 + (k : Int) := ⟨(z - 3).toNat, by omega⟩
 have hlt : k < 3 := by omega
 obtain ⟨s, hs⟩ : ∃ s, U1[k]? = some s := ⟨_, List.getElem?_eq_getElem (show k < U1.length from hlt)⟩
 have hn : Kd U1 3 z = s := by
  unfold Kd
  rw [show (z - 3).toNat = k by omega, hs]; rfl
 rw [hn]
 refine K0.enter Tryz.func36 rfl ?_
 refine ZR ?_
 refine K0.callv (fun w1 hw h => names_cap) Zk (fun y => ?_)
 refine K0.run Zk (stop := 1000) 7 _ ?_
 refine ZS 4 ?_
 refine K0.slot 15 (.int .i64 (IntKind.i64.wrap (z - 3))) (.int .i64 (k : Int)) Zk (by rw [IntWalk.i64_in _ Zo]; congr 1; omega) ?_
 refine K0.ask (Ke 64 (.slice (some ⟨y, 0, none⟩) 3 3) k) (.pointer (some ((⟨y, 0, none⟩ : Addr).add k))) Zk (fun w1 hw h => Kr (elem := 9) Zk Zk hlt) ?_
 refine ZS 5 ?_
 refine ZA (L7 9 ((⟨y, 0, none⟩ : Addr).add k)) (K3 s) (fun w1 hw h => K9 Zk (by obtain ⟨ad, q1, q2⟩ := h.2.2 k s hs; cases q1; exact q2)) ?_
 exact ZW (K3 s)
def modeA : Value := .agg #[K3 [], K3 [110, 111, 114, 109, 97, 108], K3 [109, 117, 108, 116, 105, 112, 108, 121], K3 [115, 99, 114, 101, 101, 110], K3 [111, 118, 101, 114, 108, 97, 121], K3 [100, 97, 114, 107, 101, 110], K3 [108, 105, 103, 104, 116, 101, 110], K3 [100, 105, 102, 102, 101, 114, 101, 110, 99, 101], K3 [101, 120, 99, 108, 117, 115, 105, 111, 110], K3 [104, 97, 114, 100, 108, 105, 103, 104, 116], K3 [104, 117, 101], K3 [115, 97, 116, 117, 114, 97, 116, 105, 111, 110], K3 [99, 111, 108, 111, 114], K3 [108, 117, 109, 105, 110, 111, 115, 105, 116, 121]]
theorem mnames_v : Calls Tryz.prog 131 #[] w (K5 w (fun _ : Unit => modeA) fun _ _ => True) := by
 refine K0.enter Tryz.func131 rfl ?_
 refine ZR ?_
 exact ZW (modeA)
theorem mode_cases (h : Rk x = true) : x = 1 ∨ x = 2 ∨ x = 3 ∨ x = 4 ∨ x = 5 ∨ x = 6 ∨ x = 7 ∨ x = 8 ∨ x = 9 ∨ x = 10 ∨ x = 11 ∨ x = 12 ∨ x = 13 := by
 unfold Rk at h
 rw [Bool.and_eq_true, decide_eq_true_iff, decide_eq_true_iff] at h
 omega
def mixS (t : TypeId) (v i : Value) : Sem Next := Instr.index t v i >>= fun v => pure (.value v)
theorem run_mode (hm : Rk x = true) : (mixS 172 modeA (.int .i64 x)).run Tryz.prog w = .ok (.value (K3 (Kd Ms 1 x))) w := by
 rcases mode_cases hm with rfl | rfl | rfl | rfl | rfl | rfl | rfl | rfl | rfl | rfl | rfl | rfl | rfl <;> kernel_rfl
theorem modeName_v (hm : Rk x = true) : Calls Tryz.prog 70 #[.int .i64 x] w (K5 w (fun _ : Unit => K3 (Kd Ms 1 x)) fun _ _ => True) := by
 refine K0.enter Tryz.func70 rfl ?_
 refine ZR ?_
 refine ZC (fun w1 hw h => mode_v (x := x)) fun u => ?_
 refine ZJ ((!Rk x)) false (by rw [hm]; rfl) ?_
 refine ZD 2 (fun w1 hw h => mnames_v) fun u2 => ?_
 refine ZA (mixS 172 modeA (.int .i64 x)) (K3 (Kd Ms 1 x)) (fun w1 hw h => run_mode hm) ?_
 exact ZW (K3 (Kd Ms 1 x))
theorem bit_v : Calls Tryz.prog 71 #[.bool B] w (K5 w (fun _ : Unit => K3 (Y9 B)) fun _ _ => True) := by
 cases B
 ·
  refine K0.enter Tryz.func71 rfl ?_
  refine ZR ?_
  refine ZI false ?_
  exact ZW (K3 [48])
 ·
  refine K0.enter Tryz.func71 rfl ?_
  refine ZR ?_
  refine ZI true ?_
  exact ZW (K3 [49])
theorem pathWord_v {ls : List Sg} (hs : Yb w A n ls) (hB : Pv ls = true) : Calls Tryz.prog 37 #[.slice A n c] w (K5 w (fun _ : Unit => K3 (N9 ls)) fun _ _ => True) := by
 refine K0.enter Tryz.func37 rfl ?_
 refine ZR ?_
 refine ZC (fun w1 hw h => format_s (c := c) (hs.below hw) hB) fun u => ?_
 exact ZW (K3 (N9 ls))
theorem Uq (h : Lj N = true) : (1 ≤ N.kind ∧ N.kind ≤ 3) ∧ (1 ≤ N.id ∧ N.id ≤ 1073741824) ∧ (0 ≤ N.dep ∧ N.dep < 8) ∧ N.T.ok = true ∧ Pv N.clip = true ∧ Py N = true ∧ U3 N = true ∧ ownB N = true := by
 unfold Lj commB kindX rngX at h
 simp only [Bool.and_eq_true, Bool.not_eq_true', Bool.or_eq_false_iff, decide_eq_false_iff_not] at h
 obtain ⟨⟨h1, h2, h3, h4, h5, h6, h7⟩, h8⟩ := h
 exact ⟨by omega, by omega, by omega, h3, h5, h6, h7, h8⟩
theorem rule_rng (h : Rj x = true) : 1 ≤ x ∧ x < 1 + 2 := by
 unfold Rj at h
 rw [Bool.or_eq_true, beq_iff_eq, beq_iff_eq] at h
 omega
theorem im_rng {m : Im} (h : Uy m = true) : (-9223372036854775808 ≤ m.w ∧ m.w ≤ 9223372036854775807) ∧ (-9223372036854775808 ≤ m.h ∧ m.h ≤ 9223372036854775807) := by
 unfold Uy at h
 rw [Bool.and_eq_true, Bool.and_eq_true] at h
 have hsz := of_decide_eq_true h.1.1
 omega
theorem op_rng (o : UInt8) : (0 : Int) ≤ (o.toNat : Int) ∧ (o.toNat : Int) < 256 := by
 have := o.toNat_lt
 omega
theorem first_w (hp : NRd N q K w) (hv : Lj N = true) (hl : N.im.px.length ≤ 20000) : Calls Tryz.prog 34 #[noV N q] w (K5 w (fun y : Option Addr × Nat => .slice y.1 (Kz N).length y.2) fun y u => Kj u y.1 (Kz N).length (Kz N)) := by
 obtain ⟨hk, hid, hdep, _, _, _, _, how⟩ := Uq hv
 unfold ownB at how
 refine K0.enter Tryz.func34 rfl ?_
 refine ZR ?_
 refine ZC (fun w1 hw h => Kk (n := N.id) Zo Zo) fun u0 => ?_
 refine ZC (fun w1 hw h => Kk (n := N.dep) Zo Zo) fun u1 => ?_
 by_cases k1 : N.kind = 1
 ·rw [if_pos k1] at how
  have e : Kz N = [[103, 114, 111, 117, 112], K6 N.id, K6 N.dep, K6 (N.op.toNat : Int), Kd Ms 1 N.bl, Y9 N.iso, Y9 N.ko] := by unfold Kz; rw [if_pos k1]
  have hop := op_rng N.op
  rw [e]
  refine K0.condr ((N.kind == 1)) true Zk (beq_iff_eq.2 k1) ?_
  refine ZS 5 ?_
  refine ZT 19 (.int .i64 (IntKind.i64.wrap (N.op.toNat : Int))) (.int .i64 (N.op.toNat : Int)) (by rw [IntWalk.i64_in _ Zo]) ?_
  refine ZC (fun w1 hw h => Kk (n := (N.op.toNat : Int)) Zo Zo) fun u2 => ?_
  refine ZC (fun w1 hw h => modeName_v how) fun u3 => ?_
  refine ZC (fun w1 hw h => bit_v (B := N.iso)) fun u4 => ?_
  refine ZC (fun w1 hw h => bit_v (B := N.ko)) fun u5 => ?_
  refine K0.make (Ks (64) 7 #[(0, K3 [103, 114, 111, 117, 112]), (1, K3 (K6 N.id)), (2, K3 (K6 N.dep)), (3, K3 (K6 (N.op.toNat : Int))), (4, K3 (Kd Ms 1 N.bl)), (5, K3 (Y9 N.iso)), (6, K3 (Y9 N.ko))]) (Kb 7) (Kp 9 #[K3 [103, 114, 111, 117, 112], K3 (K6 N.id), K3 (K6 N.dep), K3 (K6 (N.op.toNat : Int)), K3 (Kd Ms 1 N.bl), K3 (Y9 N.iso), K3 (Y9 N.ko)]) Zk (fun w1 hw h => K8 Zk) (fun gb => ?_)
  refine ZR ?_
  refine ZV (.slice (some ⟨gb, 0, none⟩) 7 7) (fun w1 hw h => ⟨(some ⟨gb, 0, none⟩, 7), rfl, hw, fun w'' k1 k2 => L3 (h w'' k1 k2).2 rfl⟩)
 rw [if_neg k1] at how
 refine ZJ ((N.kind == 1)) false (beq_eq_false_iff_ne.2 k1) ?_
 by_cases k2 : N.kind = 2
 ·rw [if_pos k2] at how
  unfold U7 at how
  simp only [Bool.and_eq_true] at how
  have e : Kz N = [[115, 104, 97, 112, 101], K6 N.id, K6 N.dep, Kd Lq 1 N.frule, N9 N.path] := by unfold Kz; rw [if_neg k1, if_pos k2]
  have hr := rule_rng how.2.1
  rw [e]
  refine ZJ ((N.kind == 2)) true (beq_iff_eq.2 k2) ?_
  refine ZC (fun w1 hw h => name_rule hr.1 hr.2) fun u2 => ?_
  refine ZC (fun w1 hw h => pathWord_v (c := q.pac) (hp.pa.below hw) how.1) fun u3 => ?_
  refine K0.make (Ks (64) 5 #[(0, K3 [115, 104, 97, 112, 101]), (1, K3 (K6 N.id)), (2, K3 (K6 N.dep)), (3, K3 (Kd Lq 1 N.frule)), (4, K3 (N9 N.path))]) (Kb 5) (Kp 9 #[K3 [115, 104, 97, 112, 101], K3 (K6 N.id), K3 (K6 N.dep), K3 (Kd Lq 1 N.frule), K3 (N9 N.path)]) Zk (fun w1 hw h => K8 Zk) (fun gb => ?_)
  refine ZR ?_
  refine ZV (.slice (some ⟨gb, 0, none⟩) 5 5) (fun w1 hw h => ⟨(some ⟨gb, 0, none⟩, 5), rfl, hw, fun w'' k1 k2 => L3 (h w'' k1 k2).2 rfl⟩)
 rw [if_neg k2, Bool.and_eq_true] at how
 obtain ⟨L1, hL1⟩ : ∃ L : WS, L = [[105, 109, 97, 103, 101], K6 N.id, K6 N.dep, Kd P5 1 N.samp] := ⟨_, rfl⟩
 have hL4 : L1.length = 4 := by rw [hL1]; rfl
 have e : Kz N = L1 ++ Xy N.im := by unfold Kz; rw [if_neg k1, if_neg k2, hL1]
 have hi := im_rng how.1
 have hs : N.samp = 1 ∨ N.samp = 2 := by
  have := how.2
  simp only [Bool.not_eq_true', Bool.and_eq_false_iff, bne_eq_false_iff_eq] at this
  exact this
 have el : (L1 ++ Xy N.im).length = 4 + 3 := by rw [List.length_append, hL4]; rfl
 rw [e, el]
 refine ZJ ((N.kind == 2)) false (beq_eq_false_iff_ne.2 k2) ?_
 refine ZD 5 (fun w1 hw h => name_look (z := N.samp) Zo Zo) fun u2 => ?_
 refine K0.two (i := 5) (j := 8) Zk ?_ ?_
 ·
  refine O0.make (i := 5) (Ks (64) 4 #[(0, K3 [105, 109, 97, 103, 101]), (1, K3 (K6 N.id)), (2, K3 (K6 N.dep)), (3, K3 (Kd P5 1 N.samp))]) (Kb 4) (Kp 9 #[K3 [105, 109, 97, 103, 101], K3 (K6 N.id), K3 (K6 N.dep), K3 (Kd P5 1 N.samp)]) Zk (fun w1 hw h => K8 Zk) (fun gb => ?_)
  refine ZS 9 ?_
  refine ZD 9 (fun w1 hw h => Sw (y := (q.pxA, q.pxc)) (hp.px.below hw) hl hi.1 hi.2) fun y => ?_
  refine K0.make (Lh 64 64 (Kb 4 gb) (.slice y.1 3 y.2)) (fun y : Option Addr × Nat => .slice y.1 (4 + 3) y.2) (fun y v => K7 v w.heap.size 9 1 y.1 (4 + 3) y.2 (sv (L1 ++ Xy N.im))) Zk (fun w1 hw h => O4 (p := L1) (l := Xy N.im) (by rw [hL1]; exact h.1.2) hL4 h.2 Zd Zd hw.size) (fun z => ?_)
  refine ZR ?_
  refine ZV (.slice z.1 (4 + 3) z.2) (fun w1 hw h => ⟨z, rfl, hw, fun w'' k1 k2 => (h w'' k1 k2).2.strs⟩)
 ·
  refine O0.callv (i := 8) (fun w1 hw h => Sw (y := (q.pxA, q.pxc)) (hp.px.below hw) hl hi.1 hi.2) Zk (fun y => ?_)
  refine ZS 5 ?_
  refine K0.make (Ks (64) 4 #[(0, K3 [105, 109, 97, 103, 101]), (1, K3 (K6 N.id)), (2, K3 (K6 N.dep)), (3, K3 (Kd P5 1 N.samp))]) (Kb 4) (Kp 9 #[K3 [105, 109, 97, 103, 101], K3 (K6 N.id), K3 (K6 N.dep), K3 (Kd P5 1 N.samp)]) Zk (fun w1 hw h => K8 Zk) (fun gb => ?_)
  refine ZS 9 ?_
  refine K0.make (Lh 64 64 (Kb 4 gb) (.slice y.1 3 y.2)) (fun y : Option Addr × Nat => .slice y.1 (4 + 3) y.2) (fun y v => K7 v w.heap.size 9 1 y.1 (4 + 3) y.2 (sv (L1 ++ Xy N.im))) Zk (fun w1 hw h => O4 (p := L1) (l := Xy N.im) (by rw [hL1]; exact h.2) hL4 h.1.2 Zd Zd hw.size) (fun z => ?_)
  refine ZR ?_
  refine ZV (.slice z.1 (4 + 3) z.2) (fun w1 hw h => ⟨z, rfl, hw, fun w'' k1 k2 => (h w'' k1 k2).2.strs⟩)
theorem Uu {P : Program} {t elem : TypeId} {len s : Nat} {parts : Array (Nat × Value)} {cells : Array Value} {N : Nat} (h : litOf P t len parts = some (elem, cells)) (hN : N ≤ w.heap.size) (hn : cells.size = len * s) (hm : len ≤ maxLen) :
 Le P w (Kb len) (fun g u => K7 u N elem s (some ⟨g, 0, none⟩) len len cells.toList) (Ks t len parts) := by
 obtain ⟨x, w', hrun, hb, hG⟩ := Le.fresh (K8 (w := w) h) (fun g => [g]) (fun g u h b hb => by
  simp only [List.mem_singleton] at hb; subst hb; exact ⟨_, _, _, h⟩)
 exact ⟨x, w', hrun, hb, fun w'' h1 h2 => K7.lit (hG w'' h1 h2).1 hn (Nat.le_trans hN ((hG w'' h1 h2).2 x Zs)) hm⟩
theorem sty_rng (h : P4 S = true) : (1 ≤ S.w ∧ S.w ≤ 16384) ∧ (1 ≤ S.j ∧ S.j < 1 + 3) ∧ (3 ≤ S.c ∧ S.c < 3 + 3) ∧ (256 ≤ S.m ∧ S.m ≤ 65536) ∧ (0 ≤ S.p ∧ S.p ≤ 1048576) ∧ Qi S.d = true := by
 unfold P4 Vx at h
 simp only [Bool.and_eq_true, Bool.or_eq_true, decide_eq_true_eq, beq_iff_eq] at h
 obtain ⟨⟨⟨⟨⟨⟨⟨h1, h2⟩, h3⟩, h4⟩, h5⟩, h6⟩, h7⟩, h8⟩ := h
 exact ⟨by omega, by omega, by omega, by omega, by omega, h6⟩
theorem dash_rng (h : Qi l = true) : (∀ z ∈ l, 0 ≤ z ∧ z ≤ 1048576) ∧ l.length ≤ 16 := by
 unfold Qi at h
 simp only [Bool.and_eq_true, Bool.not_eq_true', decide_eq_true_eq] at h
 refine ⟨fun z hz => ?_, by omega⟩
 have h1 := List.any_eq_false.1 h.1 z hz
 unfold Zg at h1
 simp only [Bool.or_eq_true, decide_eq_true_eq, not_or] at h1
 omega
theorem dw_snoc {k : Nat} (hx : l[k]? = some x) : (l.take (k + 1)).map K6 = (l.take k).map K6 ++ [K6 x] := by rw [S1 hx, List.map_append]; rfl
theorem pw_step {B m yc gb : Nat} {y : Option Addr} {p : WS} {a : List UInt8} (ho : K7 w B 9 1 y m yc (sv p)) (hB : B ≤ w.heap.size) (hg : Kp 9 #[K3 a] gb w) (hm : m < 999990) :
 Pm Tryz.prog w (bl y) (fun z : Option Addr × Nat => .slice z.1 (m + 1) z.2) (fun z v => K7 v B 9 1 z.1 (m + 1) z.2 (sv (p ++ [a]))) (Lh 64 64 (.slice y m yc) (Kb 1 gb)) :=
 Me (cc := 1) ho hB (L3 (L := [a]) hg rfl) (show m + 1 ≤ 1000000 by omega)
def penH (S : Sty) : WS := [K6 S.w, Kd R7 1 S.j, Kd U1 3 S.c, K6 S.m, K6 S.p, K6 (S.d.length : Int)]
theorem penW_eq : Z6 S = penH S ++ S.d.map K6 := rfl
theorem penW_len : (Z6 S).length = 6 + S.d.length := by rw [penW_eq, List.length_append, List.length_map]; rfl
theorem penWords_v (hd : Nw w y.1 S.d.length 1 daC S.d) (hv : P4 S = true) : Calls Tryz.prog 39 #[styV S y] w (K5 w (fun y : Option Addr × Nat => .slice y.1 (6 + S.d.length) y.2) fun y u => Kj u y.1 (6 + S.d.length) (Z6 S)) := by
 obtain ⟨h1, h2, h3, h4, h5, h6⟩ := sty_rng hv
 obtain ⟨hdr, hdl⟩ := dash_rng h6
 refine K0.enter Tryz.func39 rfl ?_
 refine ZR ?_
 refine ZC (fun w1 hw h => Kk (n := S.w) Zo Zo) fun u0 => ?_
 refine ZC (fun w1 hw h => name_join h2.1 h2.2) fun u1 => ?_
 refine ZC (fun w1 hw h => name_cap h3.1 h3.2) fun u2 => ?_
 refine ZC (fun w1 hw h => Kk (n := S.m) Zo Zo) fun u3 => ?_
 refine ZC (fun w1 hw h => Kk (n := S.p) Zo Zo) fun u4 => ?_
 refine ZC (fun w1 hw h => Kk (n := (S.d.length : Int)) Zo Zo) fun u5 => ?_
 refine K0.make (Ks 64 6 #[(0, K3 (K6 S.w)), (1, K3 (Kd R7 1 S.j)), (2, K3 (Kd U1 3 S.c)), (3, K3 (K6 S.m)), (4, K3 (K6 S.p)), (5, K3 (K6 (S.d.length : Int)))]) (Kb 6) (fun g u => K7 u w.heap.size 9 1 (some ⟨g, 0, none⟩) 6 6 (sv (penH S))) Zk (fun w1 hw h => Uu (s := 1) Zk hw.size rfl Zd) (fun gb => ?_)
 refine ZR ?_
 refine K0.loop (ι := {q : Nat × (Option Addr × Nat) // q.1 ≤ S.d.length}) 40 (fun q => ⟨[(3, .v (.slice q.1.2.1 (6 + q.1.1) q.1.2.2)), (27, .v (.slice y.1 S.d.length y.2)), (28, .v (.int .i64 S.d.length)), (29, .v (.int .i64 q.1.1))], []⟩) (fun q u => K7 u w.heap.size 9 1 q.1.2.1 (6 + q.1.1) q.1.2.2 (sv (penH S ++ (S.d.take q.1.1).map K6))) (fun q => S.d.length - q.1.1) (⟨(0, (some ⟨gb, 0, none⟩, 6)), Nat.zero_le _⟩) Zk (fun _ => by kernel_rfl) ⟨Zk, Zk, Zk⟩ (fun u h => by show K7 u _ _ 1 _ 6 6 (sv (penH S ++ [])); rw [List.append_nil]; exact h.2) ?_
 rintro ⟨⟨k, z⟩, hk⟩ gg
 have hk : k ≤ S.d.length := hk
 by_cases hlt : k < S.d.length
 case neg =>
  obtain rfl : k = S.d.length := by omega
  refine ZR ?_
  refine ZJ (decide ((S.d.length : Int) < (S.d.length : Int))) false Zs ?_
  refine K0.leave Zk ?_
  refine ZR ?_
  refine ZV (.slice z.1 (6 + S.d.length) z.2) (fun w1 hw h => ⟨z, rfl, hw, fun w'' k1 k2 => by have t := (show K7 w'' w.heap.size 9 1 z.1 (6 + S.d.length) z.2 (sv (penH S ++ (S.d.take S.d.length).map K6)) from h w'' k1 k2).strs; rw [List.take_length] at t; exact t⟩)
 obtain ⟨v, hx⟩ : ∃ v, S.d[k]? = some v := ⟨_, List.getElem?_eq_getElem hlt⟩
 obtain ⟨ad, hA, hc⟩ := hd.2 k v hx
 have hvr := hdr v (List.mem_of_getElem? hx)
 refine ZR ?_
 refine ZJ (decide ((k : Int) < (S.d.length : Int))) true Zp ?_
 refine ZA (Ke 41 (.slice y.1 S.d.length y.2) k) (.pointer (some (ad.add k))) (fun w1 hw h => by rw [hA]; exact Kr (elem := 3) Zk Zk hlt) ?_
 refine ZA (L7 3 (ad.add k)) (.int .i64 v) (fun w1 hw h => K9 Zk (by have := Ky hw (hc 0 (.int .i64 v) rfl); rw [addadd, Nat.mul_one, Nat.add_zero] at this; exact this)) ?_
 refine ZD 3 (fun w1 hw h => Kk (n := v) Zo Zo) fun u => ?_
 refine K0.make (Ks (64) 1 #[(0, K3 (K6 v))]) (Kb 1) (Kp 9 #[K3 (K6 v)]) Zk (fun w1 hw h => K8 Zk) (fun ga => ?_)
 refine ZS 4 ?_
 refine K0.mutOp (L := bl z.1) (val := fun (z : Option Addr × Nat) => .slice z.1 (6 + (k + 1)) z.2) (Φ' := fun (z : Option Addr × Nat) v => K7 v w.heap.size 9 1 z.1 (6 + (k + 1)) z.2 (sv (penH S ++ (S.d.take (k + 1)).map K6))) (G := fun (z : Option Addr × Nat) v => K7 v w.heap.size 9 1 z.1 (6 + (k + 1)) z.2 (sv (penH S ++ (S.d.take (k + 1)).map K6))) (Lh 64 64 (.slice z.1 (6 + k) z.2) (Kb 1 ga)) (fun w1 hw h => by have t := pw_step (m := 6 + k) (a := K6 v) h.1.1 hw.size h.2 Zo; rw [List.append_assoc, ← dw_snoc hx] at t; exact t) (fun u h => h.1.1.blk) (fun _ wa u e1 e2 h hG => hG) Zk Zk (fun z2 => ?_)
 refine ZR ?_
 refine K0.slot 29 (.int .i64 (IntKind.i64.wrap ((k : Int) + 1))) (.int .i64 ((k + 1 : Nat) : Int)) Zk (by rw [Kc hlt Zo]) ?_
 refine K0.next (⟨(k + 1, z2), by show k + 1 ≤ S.d.length; omega⟩) Zk (by show S.d.length - (k + 1) < S.d.length - k; omega) ⟨Zk, Zk, Zk⟩ (fun u h => h)
end
end
section
open Go.RowKit
--ATNAMES
abbrev LR := WS × (Option Addr × Nat)
def Pe (x : LR) : Value := .slice x.2.1 x.1.length x.2.2
section
variable {u w w' : World} {B gb n c s : Nat} {y z : Option Addr × Nat} {L : List LR} {X : LR} {e : TypeId} {A : Option Addr} {ws : WS} {xs : List Value}
theorem strAt_blk (h : Kj u A n ws) (h0 : ws ≠ []) : ∀ b ∈ bl A, ∃ cs ty own, u.heap[b]? = some (.cells cs ty own) := fun b hb => by
 cases ws with
 | nil => exact absurd rfl h0
 | cons x r =>
  obtain ⟨ad, h1, h2⟩ := h.2 0 x rfl
  subst h1
  obtain rfl : b = ad.block := by simpa [bl] using hb
  have hb2 : (ad.add 0).block = ad.block := by cases ad; simp [Addr.add]
  unfold World.cell? at h2
  rw [hb2] at h2
  split at h2
  ·rename_i c t o hh; exact ⟨c, t, o, hh⟩
  ·cases h2
theorem Xf (h : Kj u A n ws) (h0 : ws ≠ []) : ∀ b ∈ bl A, b < u.heap.size := fun b hb => by
 obtain ⟨_, _, _, h2⟩ := strAt_blk h h0 b hb
 exact (Array.getElem?_eq_some_iff.1 h2).1
theorem K5.aptR {X : Type} {val : X → Value} {G : X → World → Prop} {e : Ending} (L : X → List Nat) {R : X → Prop} (h : K5 w val G e w') (hL : ∀ x w, G x w → ∀ b ∈ L x, ∃ cs ty own, w.heap[b]? = some (.cells cs ty own))
 (hR : ∀ x, (∀ b ∈ L x, w.heap.size ≤ b) → R x) : K5 w val (fun x u => G x u ∧ R x) e w' := by
 obtain ⟨q, h1, h2, h3⟩ := h.fresh L hL
 exact ⟨q.1, h1, h2, fun w'' k1 k2 => ⟨(h3 w'' k1 k2).1, hR _ fun b hb => ((h3 w'' k1 k2).2.1 b hb).1⟩⟩
theorem Le.aptR {P : Program} {X : Type} {val : X → Value} {G : X → World → Prop} {s : Sem Next} (L : X → List Nat) {R : X → Prop} (h : Le P w val G s) (hL : ∀ x w, G x w → ∀ b ∈ L x, ∃ cs ty own, w.heap[b]? = some (.cells cs ty own))
 (hR : ∀ x, (∀ b ∈ L x, w.heap.size ≤ b) → R x) : Le P w val (fun x u => G x u ∧ R x) s := by
 obtain ⟨x, w', h1, h2, h3⟩ := h.fresh L hL
 exact ⟨x, w', h1, h2, fun w'' k1 k2 => ⟨(h3 w'' k1 k2).1, hR _ (h3 w'' k1 k2).2⟩⟩
theorem mut_fresh {P : Program} {sm : Sem Next} (ha : Pm P u (bl y.1) (fun z : Option Addr × Nat => .slice z.1 n z.2) (fun z v => K7 v B e s z.1 n z.2 xs) sm) {R : Option Addr × Nat → Prop} (hR : ∀ z, (∀ b ∈ bl z.1, b ∈ bl y.1 ∨ u.heap.size ≤ b) → R z) :
 Pm P u (bl y.1) (fun z : Option Addr × Nat => .slice z.1 n z.2) (fun z v => K7 v B e s z.1 n z.2 xs ∧ R z) sm := by
 obtain ⟨z, w', h1, h2, h3⟩ := ha
 refine ⟨z, w', h1, h2, fun w'' k1 k2 => ⟨h3 w'' k1 k2, hR z fun b hb => ?_⟩⟩
 by_cases hne : b ∈ bl y.1
 ·exact .inl hne
 right
 rcases Nat.lt_or_ge b u.heap.size with hlt | hge
 case inr => exact hge
 exfalso
 have hz0 := h3 w' (Nat.le_refl _) fun _ _ => rfl
 have hlt' : b < w'.heap.size := (hz0.lt b hb).2
 have hz2 := h3 { w' with heap := w'.heap.setIfInBounds b (.pending #[] 0) } Zs fun k hk => by
  rw [Array.getElem?_setIfInBounds_ne]
  intro hc
  subst hc
  rcases hk with hk | hk
  ·exact hne hk
  ·omega
 obtain ⟨_, cs, ty, own, h5⟩ := hz2.blk b hb
 rw [Array.getElem?_setIfInBounds_self_of_lt hlt'] at h5; cases h5
structure Mz (B : Nat) (y : Option Addr × Nat) (L : List LR) (u : World) : Prop where
 own : K7 u B 64 1 y.1 L.length y.2 (L.map Pe)
 str : ∀ x ∈ L, Kj u x.2.1 x.1.length x.1
 ne : ∀ x ∈ L, x.1 ≠ []
 apart : ∀ x ∈ L, ∀ b ∈ bl y.1, b ∉ bl x.2.1
def Apt (A : Option Addr) (y : Option Addr × Nat) (L : List LR) : Prop := ∀ b ∈ bl A, b ∉ bl y.1 ∧ ∀ x ∈ L, b ∉ bl x.2.1
theorem Mz.apt (h : Mz B y L u) (hA : ∀ b ∈ bl A, u.heap.size ≤ b) : Apt A y L := fun b hb =>
 ⟨fun hc => by have := (h.own.lt b hc).2; have := hA b hb; omega, fun x hx hc => by have := Xf (h.str x hx) (h.ne x hx) b hc; have := hA b hb; omega⟩
theorem Mz.stay {Lb : List Nat} {wa : World} (h : Mz B y L wa) (e2 : ∀ b, b ∉ Lb → wa.heap[b]? = u.heap[b]?) (hA : ∀ b ∈ Lb, b ∉ bl y.1 ∧ ∀ x ∈ L, b ∉ bl x.2.1) : Mz B y L u :=
 ⟨h.own.left e2 fun b hb hc => (hA b hc).1 hb, fun x hx => (h.str x hx).left e2 fun b hb hc => (hA b hc).2 x hx hb, h.ne, h.apart⟩
theorem sl_map : (L ++ [X]).map Pe = L.map Pe ++ [Pe X] := by rw [List.map_append]; rfl
theorem Td (h : Mz B y L u) (hB : B ≤ u.heap.size) (hX : Kj u X.2.1 X.1.length X.1) (hne : X.1 ≠ []) (hap : Apt X.2.1 y L) (hg : Kp 64 #[Pe X] gb u) (hn : L.length ≤ 10000000) :
 Pm Tryz.prog u (bl y.1) (fun z : Option Addr × Nat => .slice z.1 (L.length + 1) z.2) (fun z v => K7 v B 64 1 z.1 (L.length + 1) z.2 (L.map Pe ++ [Pe X]) ∧ ∀ x ∈ L ++ [X], ∀ b ∈ bl z.1, b ∉ bl x.2.1) (Lh 66 66 (.slice y.1 L.length y.2) (Kb 1 gb)) := by
 have ha := Ok (P := Tryz.prog) (s := 1) (z := .slice none 0 0) (bytes := 24) (m := 1) (cc := 1) (t := 66) (elem := 64) Zk Zk rfl Zd h.own hB (Ni (n := 1) hg rfl) (by intro v hv; simp at hv; subst hv; rfl) Zo Zd
 refine mut_fresh ha fun z hz x hx b hb hc => ?_
 rcases List.mem_append.1 hx with h4 | h4
 ·rcases hz b hb with h5 | h5
  ·exact h.apart x h4 b h5 hc
  ·have := Xf (h.str x h4) (h.ne x h4) b hc; omega
 ·obtain rfl : x = X := by simpa using h4
  rcases hz b hb with h5 | h5
  ·exact (hap b hc).1 h5
  ·have := Xf hX hne b hc; omega
theorem Mz.left {wa : World} (h : Mz B y L wa) (hX : Kj wa X.2.1 X.1.length X.1) (hne : X.1 ≠ []) (hap : Apt X.2.1 y L)
 (e2 : ∀ b, b ∉ bl y.1 → wa.heap[b]? = u.heap[b]?) (hG : K7 u B 64 1 z.1 (L.length + 1) z.2 (L.map Pe ++ [Pe X]) ∧ ∀ x ∈ L ++ [X], ∀ b ∈ bl z.1, b ∉ bl x.2.1) : Mz B z (L ++ [X]) u := by
 refine ⟨by rw [List.length_append, sl_map]; exact hG.1, fun x hx => ?_, fun x hx => ?_, hG.2⟩
 ·rcases List.mem_append.1 hx with h4 | h4
  ·exact (h.str x h4).left e2 fun b hb hc => h.apart x h4 b hc hb
  ·obtain rfl : x = X := by simpa using h4
   exact hX.left e2 fun b hb => (hap b hb).1
 ·rcases List.mem_append.1 hx with h4 | h4
  ·exact h.ne x h4
  ·obtain rfl : x = X := by simpa using h4
   exact hne
theorem app_rowA {m yc cc : Nat} {A1 A2 : Option Addr} {p l : WS} (hr : Mz B y L u) (ho : K7 u B 9 1 A1 m yc (sv p)) (hB : B ≤ u.heap.size) (hs : Kj u A2 n l) (hm : m + n ≤ 1000000) (hap : Apt A1 y L) :
 Pm Tryz.prog u (bl A1) (fun z : Option Addr × Nat => .slice z.1 (m + n) z.2) (fun z v => K7 v B 9 1 z.1 (m + n) z.2 (sv (p ++ l)) ∧ Apt z.1 y L) (Lh 64 64 (.slice A1 m yc) (.slice A2 n cc)) :=
 mut_fresh (y := (A1, yc)) (Me ho hB hs hm) fun z hz b hb => by
  rcases hz b hb with h5 | h5
  ·exact hap b h5
  ·exact hr.apt (A := some ⟨b, 0, none⟩) (fun b' hb' => by obtain rfl : b' = b := (by simpa [bl] using hb'); exact h5) b (by simp [bl])
theorem Yt {X1 X2 : LR} {N : Nat} (hN : N ≤ w.heap.size) (h1 : Kj w X1.2.1 X1.1.length X1.1) (n1 : X1.1 ≠ []) (h2 : Kj w X2.2.1 X2.1.length X2.1) (n2 : X2.1 ≠ []) :
 Le Tryz.prog w (Kb 2) (fun g u => K7 u N 64 1 (some ⟨g, 0, none⟩) 2 2 [Pe X1, Pe X2] ∧ ∀ x ∈ [X1, X2], ∀ b ∈ bl (some (⟨g, 0, none⟩ : Addr)), b ∉ bl x.2.1) (Ks 66 2 #[(0, Pe X1), (1, Pe X2)]) := by
 refine Le.aptR (fun g => [g]) (Uu (cells := #[Pe X1, Pe X2]) Zk hN rfl Zd) (fun g u h b hb => ?_) (fun g hg x hx b hb hc => ?_)
 ·exact (h.blk b (by simpa [bl] using hb)).2
 ·obtain rfl : b = g := by simpa [bl] using hb
  have hge := hg b Zs
  rcases List.mem_cons.1 hx with rfl | hx
  ·have := Xf h1 n1 b hc; omega
  ·obtain rfl : x = X2 := by simpa using hx
   have := Xf h2 n2 b hc; omega
theorem make_hd {m cc : Nat} {A2 : Option Addr} {p l : WS} (hr : Mz B y L w) (hg : Kp 9 (sv p).toArray gb w) (hn : p.length = n) (hs : Kj w A2 m l) (hm : 0 < m) (hk : n + m ≤ 1000000) (hB : B ≤ w.heap.size) :
 Le Tryz.prog w (fun z : Option Addr × Nat => .slice z.1 (n + m) z.2) (fun z v => K7 v B 9 1 z.1 (n + m) z.2 (sv (p ++ l)) ∧ Apt z.1 y L) (Lh 64 64 (Kb n gb) (.slice A2 m cc)) :=
 Le.aptR (fun z => bl z.1) (O4 hg hn hs hm hk hB) (fun z u h b hb => (h.blk b hb).2) fun z hz => hr.apt hz
end
section
variable {w : World} {z x : Int} {A : Option Addr} {n c : Nat} {N : Nd} {q : ND} {K : Nat} {S : Sty} {y : Option Addr × Nat} {l : List Int} {B : Bool}
theorem nd_paints (h : Lj N = true) : (N.fill.length ≤ 1 ∧ N.stroke.length ≤ 1) ∧ (∀ P ∈ N.fill, Kt P = true) ∧ (∀ P ∈ N.stroke, Kt P = true) ∧ (N.stroke.length ≠ 0 → P4 N.sty = true) := by
 obtain ⟨hk, _, _, _, _, _, hb, ho⟩ := Uq h
 unfold U3 at hb
 unfold ownB at ho
 by_cases k2 : N.kind = 2
 ·rw [if_neg Zo, if_pos k2] at ho
  unfold U7 manyB penB at ho
  simp only [Bool.and_eq_true, Bool.not_eq_true', Bool.or_eq_false_iff, decide_eq_false_iff_not, List.all_eq_true] at ho
  obtain ⟨_, _, hm, hp, hf, hs⟩ := ho
  exact ⟨by omega, hf, hs, fun h0 => by rw [if_neg h0] at hp; exact hp⟩
 ·have hs : Uj N = true := by
   by_cases k1 : N.kind = 1
   ·rw [if_pos k1, Bool.and_eq_true, Bool.and_eq_true] at hb; exact hb.1.1
   ·rw [if_neg k1, if_neg k2, Bool.and_eq_true, Bool.and_eq_true] at hb; exact hb.2.1
  unfold Uj at hs
  simp only [Bool.and_eq_true, beq_iff_eq] at hs
  have h1 : N.fill.length = 0 := by omega
  have h2 : N.stroke.length = 0 := by omega
  rw [List.length_eq_zero_iff] at h1 h2
  rw [h1, h2]
  exact ⟨by decide, by simp, by simp, by simp⟩
theorem Ut {α β : Type} {l : List α} {k : Nat} {x : α} (f : α → β) (hx : l[k]? = some x) : (l.take (k + 1)).map f = (l.take k).map f ++ [f x] := by rw [S1 hx, List.map_append]; rfl
def Rn (N : Nd) : List WS := [Kz N, Qq N]
theorem Yu {L : List LR} {M : List WS} (h : L.map (·.1) = M) : L.length = M.length := by rw [← h, List.length_map]
theorem P6 : Kz N ≠ [] := by
 unfold Kz
 split
 ·simp
 ·split
  ·simp
  ·simp
theorem head_r (hp : NRd N q K w) (hv : Lj N = true) (hl : N.im.px.length ≤ 20000) : Calls Tryz.prog 34 #[noV N q] w (K5 w (fun y : Option Addr × Nat => Pe (Kz N, y)) fun y u => Kj u y.1 (Kz N).length (Kz N)) := first_w hp hv hl
def bkA : List Nat := [11, 12, 13, 14, 15, 16, 17, 18]
def bkB : List Nat := [23, 24, 25, 26, 27, 28, 29, 30, 31, 32]
end
end
section
open Go.RowKit
--ATNAMES
section
variable {w u : World} {z x : Int} {A : Option Addr} {n c B : Nat} {N : Nd} {q : ND} {K : Nat} {S : Sty} {y : Option Addr × Nat} {l : List Int} {L : List LR} {X : LR}
theorem make_wsA {parts : Array (Nat × Value)} {cells : Array Value} {ws : WS} (h : litOf Tryz.prog 64 n parts = some (9, cells)) (he : cells.toList = sv ws) (hn : ws.length = n) (hr : Mz B y L w) :
 Le Tryz.prog w (Kb n) (fun g u => Kj u (some ⟨g, 0, none⟩) n ws ∧ Apt (some ⟨g, 0, none⟩) y L) (Ks 64 n parts) := by
 obtain ⟨g, w', h1, h2, h3⟩ := Le.aptR (R := fun g => Apt (some (⟨g, 0, none⟩ : Addr)) y L) (fun g => [g]) (K8 (w := w) h) (fun g u h b hb => by obtain rfl : b = g := (by simpa using hb); exact ⟨_, _, _, h⟩) (fun g hg => hr.apt fun b hb => hg b (by simpa [bl] using hb))
 exact ⟨g, w', h1, h2, fun w'' k1 k2 => ⟨L3 (h3 w'' k1 k2).1 he hn, (h3 w'' k1 k2).2⟩⟩
theorem two_all {α : Type} {P : α → Prop} {a b : α} (h1 : P a) (h2 : P b) : ∀ x ∈ [a, b], P x := by simp [h1, h2]
theorem row2 {g : Nat} {X1 X2 : LR} (ho : K7 u B 64 1 (some ⟨g, 0, none⟩) 2 2 [Pe X1, Pe X2]) (ha : ∀ x ∈ [X1, X2], ∀ b ∈ bl (some (⟨g, 0, none⟩ : Addr)), b ∉ bl x.2.1) (h1 : Kj u X1.2.1 X1.1.length X1.1) (n1 : X1.1 ≠ []) (h2 : Kj u X2.2.1 X2.1.length X2.1) (n2 : X2.1 ≠ []) : Mz B (some ⟨g, 0, none⟩, 2) [X1, X2] u :=
 ⟨ho, two_all h1 h2, two_all (P := fun x : LR => x.1 ≠ []) n1 n2, ha⟩
theorem clipW_len : (Re N).length ≤ 1 := by unfold Re; split <;> simp
theorem pnW_pos {P : Pn} (hv : Kt P = true) : 0 < (O1 P).length := by
 unfold O1
 split
 ·simp
 split
 ·simp
 split <;> simp
theorem lns_eq : Rg N = (Rn N ++ Re N) ++ N.fill.map M8 ++ N.stroke.map (Km N.sty) := by unfold Rg Rn; simp
theorem lines_w (hp : NRd N q K w) (hf : NFew N) (hv : Lj N = true) (hK : 2 ≤ K ∧ K ≤ 1000) (hsm : ∀ ws ∈ Rg N, ws.length ≤ 2000000 ∧ M2 ws ≤ 2000000) :
 Calls Tryz.prog 16 #[noV N q] w (K5 w (fun y : Option Addr × Nat => .slice y.1 (Rg N).length y.2) fun y u => Kj u y.1 (Rg N).length ((Rg N).map Lc)) := by
 obtain ⟨hk, hid, hdep, hok, hclip, hcl, _, _⟩ := Uq hv
 obtain ⟨hn1, hfv, hsv, hsty⟩ := nd_paints hv
 have hcn := clipW_len (N := N)
 refine K0.enter Tryz.func16 rfl ?_
 refine ZR ?_
 refine K0.meet3 (ι := (Nat × (Option Addr × Nat) × (Option Addr × Nat)) × (Nat → AV)) (fun i c => Pj bkA i.2 (Ls 3 (Kb 2 i.1.1) (Lz Tryz.prog 1000 1000 (Li (.v (Kb 2 0)) (Lz Tryz.prog 1000 1000 (Li (.v (.slice none 7 7)) (Lz Tryz.prog 1000 1000 (Li (.v (.slice none 6 6)) (Lz Tryz.prog 1000 1000 (Li (.v (.slice none 1 1)) (Lz Tryz.prog 1000 1000 (V5 2 (Kb 1 0) c)))))))))))) (fun i u => Mz w.heap.size (some ⟨i.1.1, 0, none⟩, 2) [(Kz N, i.1.2.1), (Qq N, i.1.2.2)] u) (fun k => ?_) (fun i => ?_)
 ·
  refine K0.two (i := 1) (j := 2) Zk ?_ ?_
  ·
   refine O0.callv (i := 1) (fun w1 hw h => head_r (hp.below hw) hv hf.px) Zk (fun y1 => ?_)
   refine ZR ?_
   refine K0.two (i := 2) (j := 5) Zk ?_ ?_
   ·
    refine O0.make (i := 2) (Ks (64) 1 #[(0, K3 [116, 114, 97, 110, 115, 102, 111, 114, 109])]) (Kb 1) (Kp 9 #[K3 [116, 114, 97, 110, 115, 102, 111, 114, 109]]) Zk (fun w1 hw h => K8 Zk) (fun gb => ?_)
    refine ZR ?_
    refine ZD 6 (fun w1 hw h => O8 (N := w.heap.size) hw.size (hp.tr.below hw) hK) fun y2 => ?_
    refine K0.make (Lh 64 64 (Kb 1 gb) (.slice y2.1 6 y2.2)) (fun y : Option Addr × Nat => .slice y.1 (1 + 6) y.2) (fun y v => K7 v w.heap.size 9 1 y.1 (1 + 6) y.2 (sv ([[116, 114, 97, 110, 115, 102, 111, 114, 109]] ++ Lp N.T))) Zk (fun w1 hw h => O4 (p := [[116, 114, 97, 110, 115, 102, 111, 114, 109]]) (l := Lp N.T) h.1.2 rfl h.2.strs Zd Zd hw.size) (fun z => ?_)
    refine ZR ?_
    refine K0.make (Ks 66 2 #[(0, Pe (Kz N, y1)), (1, Pe (Qq N, z))]) (Kb 2) (fun g u => K7 u w.heap.size 64 1 (some ⟨g, 0, none⟩) 2 2 [Pe (Kz N, y1), Pe (Qq N, z)] ∧ ∀ x ∈ [((Kz N, y1) : LR), (Qq N, z)], ∀ b ∈ bl (some (⟨g, 0, none⟩ : Addr)), b ∉ bl x.2.1) Zk (fun w1 hw h => Yt (X1 := (Kz N, y1)) (X2 := (Qq N, z)) hw.size h.1.1.1.2 P6 h.2.strs (by simp [Qq])) (fun g => ?_)
    refine ZR ?_
    refine K0.weak Zk (fun u h => row2 (X1 := (Kz N, y1)) (X2 := (Qq N, z)) h.2.1 h.2.2 h.1.1.1.1.2 P6 h.1.2.strs (by simp [Qq])) ?_
    exact K0.blur bkA fun x => K0.eq (k ((g, y1, z), x)) Zk
   ·
    refine O0.callv (i := 5) (fun w1 hw h => O8 (N := w.heap.size) hw.size (hp.tr.below hw) hK) Zk (fun y2 => ?_)
    refine ZS 2 ?_
    refine K0.make (Ks (64) 1 #[(0, K3 [116, 114, 97, 110, 115, 102, 111, 114, 109])]) (Kb 1) (Kp 9 #[K3 [116, 114, 97, 110, 115, 102, 111, 114, 109]]) Zk (fun w1 hw h => K8 Zk) (fun gb => ?_)
    refine ZS 6 ?_
    refine K0.make (Lh 64 64 (Kb 1 gb) (.slice y2.1 6 y2.2)) (fun y : Option Addr × Nat => .slice y.1 (1 + 6) y.2) (fun y v => K7 v w.heap.size 9 1 y.1 (1 + 6) y.2 (sv ([[116, 114, 97, 110, 115, 102, 111, 114, 109]] ++ Lp N.T))) Zk (fun w1 hw h => O4 (p := [[116, 114, 97, 110, 115, 102, 111, 114, 109]]) (l := Lp N.T) h.2 rfl h.1.2.strs Zd Zd hw.size) (fun z => ?_)
    refine ZR ?_
    refine K0.make (Ks 66 2 #[(0, Pe (Kz N, y1)), (1, Pe (Qq N, z))]) (Kb 2) (fun g u => K7 u w.heap.size 64 1 (some ⟨g, 0, none⟩) 2 2 [Pe (Kz N, y1), Pe (Qq N, z)] ∧ ∀ x ∈ [((Kz N, y1) : LR), (Qq N, z)], ∀ b ∈ bl (some (⟨g, 0, none⟩ : Addr)), b ∉ bl x.2.1) Zk (fun w1 hw h => Yt (X1 := (Kz N, y1)) (X2 := (Qq N, z)) hw.size h.1.1.1.2 P6 h.2.strs (by simp [Qq])) (fun g => ?_)
    refine ZR ?_
    refine K0.weak Zk (fun u h => row2 (X1 := (Kz N, y1)) (X2 := (Qq N, z)) h.2.1 h.2.2 h.1.1.1.1.2 P6 h.1.2.strs (by simp [Qq])) ?_
    exact K0.blur bkA fun x => K0.eq (k ((g, y1, z), x)) Zk
  ·
   refine O0.make (i := 2) (Ks (64) 1 #[(0, K3 [116, 114, 97, 110, 115, 102, 111, 114, 109])]) (Kb 1) (Kp 9 #[K3 [116, 114, 97, 110, 115, 102, 111, 114, 109]]) Zk (fun w1 hw h => K8 Zk) (fun gb => ?_)
   refine ZR ?_
   refine ZC (fun w1 hw h => head_r (hp.below hw) hv hf.px) fun y1 => ?_
   refine ZD 6 (fun w1 hw h => O8 (N := w.heap.size) hw.size (hp.tr.below hw) hK) fun y2 => ?_
   refine K0.make (Lh 64 64 (Kb 1 gb) (.slice y2.1 6 y2.2)) (fun y : Option Addr × Nat => .slice y.1 (1 + 6) y.2) (fun y v => K7 v w.heap.size 9 1 y.1 (1 + 6) y.2 (sv ([[116, 114, 97, 110, 115, 102, 111, 114, 109]] ++ Lp N.T))) Zk (fun w1 hw h => O4 (p := [[116, 114, 97, 110, 115, 102, 111, 114, 109]]) (l := Lp N.T) h.1.1.2 rfl h.2.strs Zd Zd hw.size) (fun z => ?_)
   refine ZR ?_
   refine K0.make (Ks 66 2 #[(0, Pe (Kz N, y1)), (1, Pe (Qq N, z))]) (Kb 2) (fun g u => K7 u w.heap.size 64 1 (some ⟨g, 0, none⟩) 2 2 [Pe (Kz N, y1), Pe (Qq N, z)] ∧ ∀ x ∈ [((Kz N, y1) : LR), (Qq N, z)], ∀ b ∈ bl (some (⟨g, 0, none⟩ : Addr)), b ∉ bl x.2.1) Zk (fun w1 hw h => Yt (X1 := (Kz N, y1)) (X2 := (Qq N, z)) hw.size h.1.1.2 P6 h.2.strs (by simp [Qq])) (fun g => ?_)
   refine ZR ?_
   refine K0.weak Zk (fun u h => row2 (X1 := (Kz N, y1)) (X2 := (Qq N, z)) h.2.1 h.2.2 h.1.1.1.2 P6 h.1.2.strs (by simp [Qq])) ?_
   exact K0.blur bkA fun x => K0.eq (k ((g, y1, z), x)) Zk
 obtain ⟨⟨g, y1, y2⟩, x0⟩ := i
 refine K0.meet3 (ι := {p : (Option Addr × Nat) × List LR // p.2.map (·.1) = Rn N ++ Re N} × (Nat → AV)) (fun i c => Pj bkB i.2 (Ls 3 (.slice i.1.1.1.1 i.1.1.2.length i.1.1.1.2) (Lz Tryz.prog 1000 1000 (amIf false c)))) (fun i u => Mz w.heap.size i.1.1.1 i.1.1.2 u) (fun k2 => ?_) (fun i => ?_)
 ·by_cases hc : N.clip.length = 0
  ·
   refine ZJ (decide ((N.clip.length : Int) > 0)) false (decide_eq_false Zo) ?_
   exact K0.blur bkB fun x => K0.eq (k2 (⟨((some ⟨g, 0, none⟩, 2), [(Kz N, y1), (Qq N, y2)]), by unfold Re; rw [if_pos hc]; rfl⟩, x)) Zk
  ·have hr := rule_rng (x := N.crule) (by unfold Py at hcl; rw [if_neg hc] at hcl; exact hcl)
   refine ZJ (decide ((N.clip.length : Int) > 0)) true (decide_eq_true Zo) ?_
   refine ZC (fun w1 hw h => name_rule hr.1 hr.2) fun u1 => ?_
   refine ZC (fun w1 hw h => pathWord_v (c := q.clc) (hp.cl.below hw) hclip) fun u2 => ?_
   refine K0.make (Ks 64 3 #[(0, K3 [99, 108, 105, 112]), (1, K3 (Kd Lq 1 N.crule)), (2, K3 (N9 N.clip))]) (Kb 3) (fun ga u => Kj u (some ⟨ga, 0, none⟩) 3 [[99, 108, 105, 112], Kd Lq 1 N.crule, N9 N.clip] ∧ Apt (some ⟨ga, 0, none⟩) (some ⟨g, 0, none⟩, 2) [(Kz N, y1), (Qq N, y2)]) Zk (fun w1 hw h => make_wsA (cells := #[K3 [99, 108, 105, 112], K3 (Kd Lq 1 N.crule), K3 (N9 N.clip)]) Zk rfl rfl h.1.1) (fun ga => ?_)
   refine ZR ?_
   refine K0.make (Ks 66 1 #[(0, Pe ([[99, 108, 105, 112], Kd Lq 1 N.crule, N9 N.clip], (some ⟨ga, 0, none⟩, 3)))]) (Kb 1) (Kp 64 #[Pe ([[99, 108, 105, 112], Kd Lq 1 N.crule, N9 N.clip], (some ⟨ga, 0, none⟩, 3))]) Zk (fun w1 hw h => K8 Zk) (fun gb => ?_)
   refine ZS 9 ?_
   refine K0.mutAny (L := bl (some (⟨g, 0, none⟩ : Addr))) (val := fun (z : Option Addr × Nat) => .slice z.1 (2 + 1) z.2) (Φ' := fun (z : Option Addr × Nat) u => Mz w.heap.size z [(Kz N, y1), (Qq N, y2), ([[99, 108, 105, 112], Kd Lq 1 N.crule, N9 N.clip], (some ⟨ga, 0, none⟩, 3))] u) (G := fun (z : Option Addr × Nat) v => K7 v w.heap.size 64 1 z.1 (2 + 1) z.2 [Pe (Kz N, y1), Pe (Qq N, y2), Pe ([[99, 108, 105, 112], Kd Lq 1 N.crule, N9 N.clip], (some ⟨ga, 0, none⟩, 3))] ∧ ∀ x ∈ [((Kz N, y1) : LR), (Qq N, y2), ([[99, 108, 105, 112], Kd Lq 1 N.crule, N9 N.clip], (some ⟨ga, 0, none⟩, 3))], ∀ b ∈ bl z.1, b ∉ bl x.2.1) (Lh 66 66 (.slice (some ⟨g, 0, none⟩) 2 2) (Kb 1 gb)) (fun w1 hw h => Td (y := (some ⟨g, 0, none⟩, 2)) (L := [(Kz N, y1), (Qq N, y2)]) (X := ([[99, 108, 105, 112], Kd Lq 1 N.crule, N9 N.clip], (some ⟨ga, 0, none⟩, 3))) h.1.1.1.1 hw.size h.1.2.1 Zs h.1.2.2 h.2 Zs) (fun u h => h.1.1.1.1.own.blk) (fun z wa u e1 e2 h hG => Mz.left (L := [(Kz N, y1), (Qq N, y2)]) (X := ([[99, 108, 105, 112], Kd Lq 1 N.crule, N9 N.clip], (some ⟨ga, 0, none⟩, 3))) h.1.1.1.1 h.1.2.1 Zs h.1.2.2 e2 hG) Zk Zk (fun z => ?_)
   refine ZR ?_
   exact K0.blur bkB fun x => K0.eq (k2 (⟨(z, [(Kz N, y1), (Qq N, y2), ([[99, 108, 105, 112], Kd Lq 1 N.crule, N9 N.clip], (some ⟨ga, 0, none⟩, 3))]), by unfold Re; rw [if_neg hc]; rfl⟩, x)) Zk
 obtain ⟨⟨⟨y, L⟩, hL⟩, x1⟩ := i
 refine K0.loop (ι := {p : Nat × (Option Addr × Nat) × List LR // p.1 ≤ N.fill.length ∧ p.2.2.map (·.1) = (Rn N ++ Re N) ++ (N.fill.take p.1).map M8}) 80 (fun p => ⟨[(1, .p 1 0), (3, .v (.slice p.1.2.1.1 p.1.2.2.length p.1.2.1.2)), (34, .v (.slice q.fiA N.fill.length q.fic)), (35, .v (.int .i64 N.fill.length)), (36, .v (.int .i64 p.1.1))], [(1, (noC N q).map .v)]⟩) (fun p u => Mz w.heap.size p.1.2.1 p.1.2.2 u) (fun p => N.fill.length - p.1.1) (⟨(0, y, L), Nat.zero_le _, by show L.map (·.1) = _; rw [show L.map (·.1) = Rn N ++ Re N from hL]; simp⟩) Zk (fun _ => by kernel_rfl) ⟨Zk, Zk, Zk⟩ (fun u h => h) ?_
 rintro ⟨⟨k, y, L⟩, hk, hLM⟩ gg
 have hk : k ≤ N.fill.length := hk
 have hLM : L.map (·.1) = (Rn N ++ Re N) ++ (N.fill.take k).map M8 := hLM
 have hLn : L.length ≤ 10 := by rw [Yu hLM]; simp [Rn]; omega
 by_cases hlt : k < N.fill.length
 case pos =>
  obtain ⟨P, hx⟩ : ∃ v, N.fill[k]? = some v := ⟨_, List.getElem?_eq_getElem hlt⟩
  obtain ⟨p, hx2, hrd⟩ := hp.fi.get hx
  obtain ⟨ad, hA, hc⟩ := hp.fi.row.2 k _ hx2
  have hPm := List.mem_of_getElem? hx
  have hPv := hfv P hPm
  have hPf := hf.fi P hPm
  have hps := Vi hPv
  have hpn : 0 < (O1 P).length := pnW_pos hPv
  have eF : 1 + (O1 P).length = (M8 P).length := Nat.add_comm _ _
  refine ZR ?_
  refine ZJ (decide ((k : Int) < (N.fill.length : Int))) true Zp ?_
  refine ZA (Ke 40 (.slice q.fiA N.fill.length q.fic) k) (.pointer (some (ad.add (k * 40)))) (fun w1 hw h => Sb hA hlt) ?_
  refine ZA (L7 56 (ad.add (k * 40))) (.agg (pC2 (P, p)).toArray) (fun w1 hw h => Tp fun j v hj => Ky hw (hc j v hj)) ?_
  refine K0.make (Ks 64 1 #[(0, K3 [102, 105, 108, 108])]) (Kb 1) (Kp 9 #[K3 [102, 105, 108, 108]]) Zk (fun w1 hw h => K8 Zk) (fun gb => ?_)
  refine ZR ?_
  refine ZD 4 (fun w1 hw h => Su (hrd.below hw) hPv hK hPf.1) fun wy => ?_
  refine K0.make (Lh 64 64 (Kb 1 gb) (.slice wy.1 (O1 P).length wy.2)) (fun z : Option Addr × Nat => .slice z.1 (1 + (O1 P).length) z.2) (fun z v => K7 v w.heap.size 9 1 z.1 (1 + (O1 P).length) z.2 (sv (M8 P)) ∧ Apt z.1 y L) Zk (fun w1 hw h => make_hd (p := [[102, 105, 108, 108]]) (l := O1 P) h.1.1 h.1.2 rfl h.2 hpn Zo hw.size) (fun z => ?_)
  refine ZR ?_
  refine K0.make (Ks 66 1 #[(0, .slice z.1 (1 + (O1 P).length) z.2)]) (Kb 1) (Kp 64 #[.slice z.1 (1 + (O1 P).length) z.2]) Zk (fun w1 hw h => K8 Zk) (fun ga => ?_)
  refine ZS 6 ?_
  have hX : ∀ v : World, K7 v w.heap.size 9 1 z.1 (1 + (O1 P).length) z.2 (sv (M8 P)) → Kj v z.1 (M8 P).length (M8 P) := fun v h => by have t := h.strs; rw [eF] at t; exact t
  have eX : Value.slice z.1 (1 + (O1 P).length) z.2 = Pe (M8 P, z) := by rw [eF]; rfl
  refine K0.mutOp (L := bl y.1) (val := fun (z2 : Option Addr × Nat) => .slice z2.1 (L.length + 1) z2.2) (Φ' := fun (z2 : Option Addr × Nat) u => Mz w.heap.size z2 (L ++ [(M8 P, z)]) u) (G := fun (z2 : Option Addr × Nat) v => K7 v w.heap.size 64 1 z2.1 (L.length + 1) z2.2 (L.map Pe ++ [Pe (M8 P, z)]) ∧ ∀ x ∈ L ++ [(M8 P, z)], ∀ b ∈ bl z2.1, b ∉ bl x.2.1) (Lh 66 66 (.slice y.1 L.length y.2) (Kb 1 ga)) (fun w1 hw h => Td (X := (M8 P, z)) h.1.1.1.1 hw.size (hX _ h.1.2.1) (by simp [M8]) h.1.2.2 (by rw [← eX]; exact h.2) Zo) (fun u h => h.1.1.1.1.own.blk) (fun z2 wa u e1 e2 h hG => Mz.left h.1.1.1.1 (hX _ h.1.2.1) (by simp [M8]) h.1.2.2 e2 hG) Zk Zk (fun z2 => ?_)
  refine ZR ?_
  refine K0.slot 36 (.int .i64 (IntKind.i64.wrap ((k : Int) + 1))) (.int .i64 ((k + 1 : Nat) : Int)) Zk (by rw [Kc hlt Zo]) ?_
  refine K0.slot 3 (.slice z2.1 (L.length + 1) z2.2) (.slice z2.1 (L ++ [((M8 P, z) : LR)]).length z2.2) Zk (by rw [List.length_append]; rfl) ?_
  refine K0.next (⟨(k + 1, z2, L ++ [(M8 P, z)]), by show k + 1 ≤ N.fill.length; omega, by show (L ++ [((M8 P, z) : LR)]).map (·.1) = _; rw [List.map_append, hLM, Ut M8 hx]; simp⟩) Zk (by show N.fill.length - (k + 1) < N.fill.length - k; omega) ⟨Zk, Zk, Zk⟩ (fun u h => h)
 obtain rfl : k = N.fill.length := by omega
 rw [List.take_length] at hLM
 refine ZR ?_
 refine ZJ (decide ((N.fill.length : Int) < (N.fill.length : Int))) false Zs ?_
 refine K0.leave Zk ?_
 refine ZR ?_
 refine K0.loop (ι := {p : Nat × (Option Addr × Nat) × List LR // p.1 ≤ N.stroke.length ∧ p.2.2.map (·.1) = ((Rn N ++ Re N) ++ N.fill.map M8) ++ (N.stroke.take p.1).map (Km N.sty)}) 80 (fun p => ⟨[(1, .p 1 0), (3, .v (.slice p.1.2.1.1 p.1.2.2.length p.1.2.1.2)), (49, .v (.slice q.stA N.stroke.length q.stc)), (50, .v (.int .i64 N.stroke.length)), (51, .v (.int .i64 p.1.1))], [(1, (noC N q).map .v)]⟩) (fun p u => Mz w.heap.size p.1.2.1 p.1.2.2 u) (fun p => N.stroke.length - p.1.1) (⟨(0, y, L), Nat.zero_le _, by show L.map (·.1) = _; rw [hLM]; simp⟩) Zk (fun _ => by kernel_rfl) ⟨Zk, Zk, Zk⟩ (fun u h => h) ?_
 rintro ⟨⟨k, y, L⟩, hk, hLM⟩ gg
 have hk : k ≤ N.stroke.length := hk
 have hLM : L.map (·.1) = ((Rn N ++ Re N) ++ N.fill.map M8) ++ (N.stroke.take k).map (Km N.sty) := hLM
 have hLn : L.length ≤ 10 := by rw [Yu hLM]; simp [Rn]; omega
 by_cases hlt : k < N.stroke.length
 case pos =>
  obtain ⟨P, hx⟩ : ∃ v, N.stroke[k]? = some v := ⟨_, List.getElem?_eq_getElem hlt⟩
  obtain ⟨p, hx2, hrd⟩ := hp.st.get hx
  obtain ⟨ad, hA, hc⟩ := hp.st.row.2 k _ hx2
  have hPm := List.mem_of_getElem? hx
  have hPv := hsv P hPm
  have hPf := hf.st P hPm
  have hS := hsty Zo
  have hps := Vi hPv
  have hpn : 0 < (O1 P).length := pnW_pos hPv
  have hd16 := (dash_rng (sty_rng hS).2.2.2.2.2).2
  have eF : 1 + (6 + N.sty.d.length) + (O1 P).length = (Km N.sty P).length := by unfold Km; rw [List.length_cons, List.length_append, penW_len]; omega
  refine ZR ?_
  refine ZJ (decide ((k : Int) < (N.stroke.length : Int))) true Zp ?_
  refine ZA (Ke 40 (.slice q.stA N.stroke.length q.stc) k) (.pointer (some (ad.add (k * 40)))) (fun w1 hw h => Sb hA hlt) ?_
  refine ZA (L7 56 (ad.add (k * 40))) (.agg (pC2 (P, p)).toArray) (fun w1 hw h => Tp fun j v hj => Ky hw (hc j v hj)) ?_
  refine K0.two (i := 1) (j := 4) Zk ?_ ?_
  ·
   refine O0.make (i := 1) (Ks (64) 1 #[(0, K3 [115, 116, 114, 111, 107, 101])]) (Kb 1) (Kp 9 #[K3 [115, 116, 114, 111, 107, 101]]) Zk (fun w1 hw h => K8 Zk) (fun gb => ?_)
   refine ZR ?_
   refine ZD 5 (fun w1 hw h => penWords_v (y := (q.daA, q.dac)) (hp.da.below hw) hS) fun py => ?_
   refine K0.make (Lh 64 64 (Kb 1 gb) (.slice py.1 (6 + N.sty.d.length) py.2)) (fun z : Option Addr × Nat => .slice z.1 (1 + (6 + N.sty.d.length)) z.2) (fun z v => K7 v w.heap.size 9 1 z.1 (1 + (6 + N.sty.d.length)) z.2 (sv ([[115, 116, 114, 111, 107, 101]] ++ Z6 N.sty)) ∧ Apt z.1 y L) Zk (fun w1 hw h => make_hd (p := [[115, 116, 114, 111, 107, 101]]) (l := Z6 N.sty) h.1.1 h.1.2 rfl h.2 Zo Zo hw.size) (fun z => ?_)
   refine ZR ?_
   refine ZD 8 (fun w1 hw h => Su (hrd.below hw) hPv hK hPf.1) fun wy => ?_
   refine K0.mutAnyB (L := bl z.1) (val := fun (z3 : Option Addr × Nat) => .slice z3.1 (1 + (6 + N.sty.d.length) + (O1 P).length) z3.2) (Φ' := fun (z3 : Option Addr × Nat) u => Mz w.heap.size y L u ∧ K7 u w.heap.size 9 1 z3.1 (1 + (6 + N.sty.d.length) + (O1 P).length) z3.2 (sv (([[115, 116, 114, 111, 107, 101]] ++ Z6 N.sty) ++ O1 P)) ∧ Apt z3.1 y L) (G := fun (z3 : Option Addr × Nat) v => K7 v w.heap.size 9 1 z3.1 (1 + (6 + N.sty.d.length) + (O1 P).length) z3.2 (sv (([[115, 116, 114, 111, 107, 101]] ++ Z6 N.sty) ++ O1 P)) ∧ Apt z3.1 y L) (Lh 64 64 (.slice z.1 (1 + (6 + N.sty.d.length)) z.2) (.slice wy.1 (O1 P).length wy.2)) (fun w1 hw h => app_rowA h.1.1.1.1 h.1.2.1 hw.size h.2 Zo h.1.2.2) (fun u h => h.1.2.1.blk) (fun z3 wa u e1 e2 h hG => ⟨Mz.stay h.1.1.1.1 e2 h.1.2.2, hG⟩) Zk Zk (fun z3 => ?_)
   refine ZR ?_
   refine K0.make (Ks 66 1 #[(0, .slice z3.1 (1 + (6 + N.sty.d.length) + (O1 P).length) z3.2)]) (Kb 1) (Kp 64 #[.slice z3.1 (1 + (6 + N.sty.d.length) + (O1 P).length) z3.2]) Zk (fun w1 hw h => K8 Zk) (fun ga => ?_)
   refine ZS 10 ?_
   have hX : ∀ v : World, K7 v w.heap.size 9 1 z3.1 (1 + (6 + N.sty.d.length) + (O1 P).length) z3.2 (sv (([[115, 116, 114, 111, 107, 101]] ++ Z6 N.sty) ++ O1 P)) → Kj v z3.1 (Km N.sty P).length (Km N.sty P) := fun v h => by have t := h.strs; rw [eF] at t; exact t
   have eX : Value.slice z3.1 (1 + (6 + N.sty.d.length) + (O1 P).length) z3.2 = Pe (Km N.sty P, z3) := by rw [eF]; rfl
   refine K0.mutAny (L := bl y.1) (val := fun (z2 : Option Addr × Nat) => .slice z2.1 (L.length + 1) z2.2) (Φ' := fun (z2 : Option Addr × Nat) u => Mz w.heap.size z2 (L ++ [(Km N.sty P, z3)]) u) (G := fun (z2 : Option Addr × Nat) v => K7 v w.heap.size 64 1 z2.1 (L.length + 1) z2.2 (L.map Pe ++ [Pe (Km N.sty P, z3)]) ∧ ∀ x ∈ L ++ [(Km N.sty P, z3)], ∀ b ∈ bl z2.1, b ∉ bl x.2.1) (Lh 66 66 (.slice y.1 L.length y.2) (Kb 1 ga)) (fun w1 hw h => Td (X := (Km N.sty P, z3)) h.1.1 hw.size (hX _ h.1.2.1) (by simp [Km]) h.1.2.2 (by rw [← eX]; exact h.2) Zo) (fun u h => h.1.1.own.blk) (fun z2 wa u e1 e2 h hG => Mz.left h.1.1 (hX _ h.1.2.1) (by simp [Km]) h.1.2.2 e2 hG) Zk Zk (fun z2 => ?_)
   refine ZR ?_
   refine K0.slot 51 (.int .i64 (IntKind.i64.wrap ((k : Int) + 1))) (.int .i64 ((k + 1 : Nat) : Int)) Zk (by rw [Kc hlt Zo]) ?_
   refine K0.slot 3 (.slice z2.1 (L.length + 1) z2.2) (.slice z2.1 (L ++ [((Km N.sty P, z3) : LR)]).length z2.2) Zk (by rw [List.length_append]; rfl) ?_
   refine K0.next (⟨(k + 1, z2, L ++ [(Km N.sty P, z3)]), by show k + 1 ≤ N.stroke.length; omega, by show (L ++ [((Km N.sty P, z3) : LR)]).map (·.1) = _; rw [List.map_append, hLM, Ut (Km N.sty) hx]; simp⟩) Zk (by show N.stroke.length - (k + 1) < N.stroke.length - k; omega) ⟨Zk, Zk, Zk⟩ (fun u h => h)
  ·
   refine O0.callv (i := 4) (fun w1 hw h => penWords_v (y := (q.daA, q.dac)) (hp.da.below hw) hS) Zk (fun py => ?_)
   refine ZS 1 ?_
   refine K0.make (Ks (64) 1 #[(0, K3 [115, 116, 114, 111, 107, 101])]) (Kb 1) (Kp 9 #[K3 [115, 116, 114, 111, 107, 101]]) Zk (fun w1 hw h => K8 Zk) (fun gb => ?_)
   refine ZS 5 ?_
   refine K0.make (Lh 64 64 (Kb 1 gb) (.slice py.1 (6 + N.sty.d.length) py.2)) (fun z : Option Addr × Nat => .slice z.1 (1 + (6 + N.sty.d.length)) z.2) (fun z v => K7 v w.heap.size 9 1 z.1 (1 + (6 + N.sty.d.length)) z.2 (sv ([[115, 116, 114, 111, 107, 101]] ++ Z6 N.sty)) ∧ Apt z.1 y L) Zk (fun w1 hw h => make_hd (p := [[115, 116, 114, 111, 107, 101]]) (l := Z6 N.sty) h.1.1 h.2 rfl h.1.2 Zo Zo hw.size) (fun z => ?_)
   refine ZR ?_
   refine ZD 8 (fun w1 hw h => Su (hrd.below hw) hPv hK hPf.1) fun wy => ?_
   refine K0.mutAnyB (L := bl z.1) (val := fun (z3 : Option Addr × Nat) => .slice z3.1 (1 + (6 + N.sty.d.length) + (O1 P).length) z3.2) (Φ' := fun (z3 : Option Addr × Nat) u => Mz w.heap.size y L u ∧ K7 u w.heap.size 9 1 z3.1 (1 + (6 + N.sty.d.length) + (O1 P).length) z3.2 (sv (([[115, 116, 114, 111, 107, 101]] ++ Z6 N.sty) ++ O1 P)) ∧ Apt z3.1 y L) (G := fun (z3 : Option Addr × Nat) v => K7 v w.heap.size 9 1 z3.1 (1 + (6 + N.sty.d.length) + (O1 P).length) z3.2 (sv (([[115, 116, 114, 111, 107, 101]] ++ Z6 N.sty) ++ O1 P)) ∧ Apt z3.1 y L) (Lh 64 64 (.slice z.1 (1 + (6 + N.sty.d.length)) z.2) (.slice wy.1 (O1 P).length wy.2)) (fun w1 hw h => app_rowA h.1.1.1.1 h.1.2.1 hw.size h.2 Zo h.1.2.2) (fun u h => h.1.2.1.blk) (fun z3 wa u e1 e2 h hG => ⟨Mz.stay h.1.1.1.1 e2 h.1.2.2, hG⟩) Zk Zk (fun z3 => ?_)
   refine ZR ?_
   refine K0.make (Ks 66 1 #[(0, .slice z3.1 (1 + (6 + N.sty.d.length) + (O1 P).length) z3.2)]) (Kb 1) (Kp 64 #[.slice z3.1 (1 + (6 + N.sty.d.length) + (O1 P).length) z3.2]) Zk (fun w1 hw h => K8 Zk) (fun ga => ?_)
   refine ZS 10 ?_
   have hX : ∀ v : World, K7 v w.heap.size 9 1 z3.1 (1 + (6 + N.sty.d.length) + (O1 P).length) z3.2 (sv (([[115, 116, 114, 111, 107, 101]] ++ Z6 N.sty) ++ O1 P)) → Kj v z3.1 (Km N.sty P).length (Km N.sty P) := fun v h => by have t := h.strs; rw [eF] at t; exact t
   have eX : Value.slice z3.1 (1 + (6 + N.sty.d.length) + (O1 P).length) z3.2 = Pe (Km N.sty P, z3) := by rw [eF]; rfl
   refine K0.mutAny (L := bl y.1) (val := fun (z2 : Option Addr × Nat) => .slice z2.1 (L.length + 1) z2.2) (Φ' := fun (z2 : Option Addr × Nat) u => Mz w.heap.size z2 (L ++ [(Km N.sty P, z3)]) u) (G := fun (z2 : Option Addr × Nat) v => K7 v w.heap.size 64 1 z2.1 (L.length + 1) z2.2 (L.map Pe ++ [Pe (Km N.sty P, z3)]) ∧ ∀ x ∈ L ++ [(Km N.sty P, z3)], ∀ b ∈ bl z2.1, b ∉ bl x.2.1) (Lh 66 66 (.slice y.1 L.length y.2) (Kb 1 ga)) (fun w1 hw h => Td (X := (Km N.sty P, z3)) h.1.1 hw.size (hX _ h.1.2.1) (by simp [Km]) h.1.2.2 (by rw [← eX]; exact h.2) Zo) (fun u h => h.1.1.own.blk) (fun z2 wa u e1 e2 h hG => Mz.left h.1.1 (hX _ h.1.2.1) (by simp [Km]) h.1.2.2 e2 hG) Zk Zk (fun z2 => ?_)
   refine ZR ?_
   refine K0.slot 51 (.int .i64 (IntKind.i64.wrap ((k : Int) + 1))) (.int .i64 ((k + 1 : Nat) : Int)) Zk (by rw [Kc hlt Zo]) ?_
   refine K0.slot 3 (.slice z2.1 (L.length + 1) z2.2) (.slice z2.1 (L ++ [((Km N.sty P, z3) : LR)]).length z2.2) Zk (by rw [List.length_append]; rfl) ?_
   refine K0.next (⟨(k + 1, z2, L ++ [(Km N.sty P, z3)]), by show k + 1 ≤ N.stroke.length; omega, by show (L ++ [((Km N.sty P, z3) : LR)]).map (·.1) = _; rw [List.map_append, hLM, Ut (Km N.sty) hx]; simp⟩) Zk (by show N.stroke.length - (k + 1) < N.stroke.length - k; omega) ⟨Zk, Zk, Zk⟩ (fun u h => h)
 obtain rfl : k = N.stroke.length := by omega
 rw [List.take_length] at hLM
 refine ZR ?_
 refine ZJ (decide ((N.stroke.length : Int) < (N.stroke.length : Int))) false Zs ?_
 refine K0.leave Zk ?_
 refine ZR ?_
 have hLe : L.map (·.1) = Rg N := by rw [hLM, lns_eq]
 have hLl := Yu hLe
 have hL0 : 0 < L.length := by rw [hLl]; simp [Rg]
 refine K0.pure_ (p := ∃ g : Nat, y.1 = some ⟨g, 0, none⟩) (fun w1 hw h => by obtain ⟨g, e, _⟩ := (show Mz w.heap.size y L w1 from h).own.cells hL0; exact ⟨g, e⟩) Zk (fun hg => ?_)
 obtain ⟨g1, hg⟩ := hg
 refine K0.loop (ι := {p : Nat × (Option Addr × Nat) // p.1 ≤ L.length}) 80 (fun p => ⟨[(8, .v (.slice p.1.2.1 p.1.1 p.1.2.2)), (67, .v (.slice y.1 L.length y.2)), (68, .v (.int .i64 L.length)), (69, .v (.int .i64 p.1.1))], []⟩) (fun p u => Mz w.heap.size y L u ∧ K7 u w.heap.size 9 1 p.1.2.1 p.1.1 p.1.2.2 (sv ((L.take p.1.1).map fun x => Lc x.1)) ∧ Apt p.1.2.1 y L) (fun p => L.length - p.1.1) (⟨(0, (none, 0)), Nat.zero_le _⟩) Zk (fun _ => by kernel_rfl) ⟨Zk, Zk, Zk⟩ (fun u h => ⟨h, K7.nil_, fun b hb => by cases hb⟩) ?_
 rintro ⟨⟨k, z⟩, hk⟩ gg
 have hk : k ≤ L.length := hk
 by_cases hlt : k < L.length
 case pos =>
  obtain ⟨X, hx⟩ : ∃ v, L[k]? = some v := ⟨_, List.getElem?_eq_getElem hlt⟩
  have hXm := List.mem_of_getElem? hx
  have hXs := hsm X.1 (by rw [← hLe]; exact List.mem_map_of_mem hXm)
  refine ZR ?_
  refine ZJ (decide ((k : Int) < (L.length : Int))) true Zp ?_
  refine ZA (Ke 66 (.slice y.1 L.length y.2) k) (.pointer (some ((⟨g1, 0, none⟩ : Addr).add k))) (fun w1 hw h => by rw [hg]; exact Kr (elem := 64) Zk Zk hlt) ?_
  refine ZA (L7 64 ((⟨g1, 0, none⟩ : Addr).add k)) (Pe X) (fun w1 hw h => K9 Zk (by obtain ⟨g2, e2, h2⟩ := h.1.own.cells hL0; rw [hg] at e2; cases e2; rw [Addr.add_mid, Nat.zero_add]; exact h2 k _ (by rw [List.getElem?_map, hx]; rfl))) ?_
  refine ZC (fun w1 hw h => Sv (c := X.2.2) (h.1.str X hXm) hXs.1 hXs.2) fun v => ?_
  refine K0.make (Ks 64 1 #[(0, K3 (Lc X.1))]) (Kb 1) (Kp 9 #[K3 (Lc X.1)]) Zk (fun w1 hw h => K8 Zk) (fun ga => ?_)
  refine ZS 4 ?_
  refine K0.mutOp (L := bl z.1) (val := fun (z2 : Option Addr × Nat) => .slice z2.1 (k + 1) z2.2) (Φ' := fun (z2 : Option Addr × Nat) u => Mz w.heap.size y L u ∧ K7 u w.heap.size 9 1 z2.1 (k + 1) z2.2 (sv ((L.take (k + 1)).map fun x => Lc x.1)) ∧ Apt z2.1 y L) (G := fun (z2 : Option Addr × Nat) v => K7 v w.heap.size 9 1 z2.1 (k + 1) z2.2 (sv ((L.take (k + 1)).map fun x => Lc x.1)) ∧ Apt z2.1 y L) (Lh 64 64 (.slice z.1 k z.2) (Kb 1 ga)) (fun w1 hw h => by rw [Ut (fun x : LR => Lc x.1) hx]; exact app_rowA (n := 1) (cc := 1) (l := [Lc X.1]) h.1.1.1 h.1.1.2.1 hw.size (L3 (L := [Lc X.1]) h.2 rfl) (show k + 1 ≤ 1000000 by omega) h.1.1.2.2) (fun u h => h.1.1.2.1.blk) (fun z2 wa u e1 e2 h hG => ⟨Mz.stay h.1.1.1 e2 h.1.1.2.2, hG⟩) Zk Zk (fun z2 => ?_)
  refine ZR ?_
  refine K0.slot 69 (.int .i64 (IntKind.i64.wrap ((k : Int) + 1))) (.int .i64 ((k + 1 : Nat) : Int)) Zk (by rw [Kc hlt Zo]) ?_
  refine K0.next (⟨(k + 1, z2), by show k + 1 ≤ L.length; omega⟩) Zk (by show L.length - (k + 1) < L.length - k; omega) ⟨Zk, Zk, Zk⟩ (fun u h => h)
 obtain rfl : k = L.length := by omega
 refine ZR ?_
 refine ZJ (decide ((L.length : Int) < (L.length : Int))) false Zs ?_
 refine K0.leave Zk ?_
 refine ZR ?_
 refine ZV (.slice z.1 L.length z.2) (fun w1 hw h => ⟨z, by rw [hLl], hw, fun w'' k1 k2 => by have t := (show Mz w.heap.size y L w'' ∧ K7 w'' w.heap.size 9 1 z.1 L.length z.2 (sv ((L.take L.length).map fun x => Lc x.1)) ∧ Apt z.1 y L from h w'' k1 k2).2.1.strs; rw [List.take_length, hLl] at t; rw [← hLe, List.map_map]; rw [hLe]; exact t⟩)
end
end
section
variable {N : Nd} {S : Sc} {ws : WS} {P : Pn}
structure NSm (N : Nd) : Prop where
 im : N.im.px.length ≤ 1000
 fi : ∀ P ∈ N.fill, P.im.px.length ≤ 1000
 st : ∀ P ∈ N.stroke, P.im.px.length ≤ 1000
theorem Ur {l : WS} {f k : Int} (h : ∀ x ∈ l, x.length ≤ 10) : (Kd l f k).length ≤ 10 := by
 unfold Kd
 cases e : l[(k - f).toNat]? with
 | none => simp
 | some x => exact h x (List.mem_of_getElem? e)
theorem fmtP_le {l : List Sg} (h : Pv l = true) : (N9 l).length ≤ 40448 := by
 obtain ⟨h1, h2⟩ := good_path h
 have := fmtP_len h1
 omega
theorem Qm {x : Int} (h : -9223372036854775808 ≤ x ∧ x ≤ 9223372036854775807) : (K6 x).length ≤ 21 := R8 h
theorem Zw {α : Type} {f : α → List UInt8} {n : Nat} : ∀ {l : List α}, (∀ x ∈ l, (f x).length ≤ n) → M2 (l.map f) ≤ n * l.length
 | [], _ => Nat.zero_le _
 | x :: l, h => by
  have h1 := h x Zs
  have h2 := Zw (l := l) fun y hy => h y (List.mem_cons_of_mem _ hy)
  simp only [List.map_cons, M2, List.length_cons, Nat.mul_succ]
  omega
theorem penW_le {T : Sty} (h : P4 T = true) : M2 (Z6 T) ≤ 500 ∧ (Z6 T).length ≤ 22 := by
 obtain ⟨h1, h2, h3, h4, h5, h6⟩ := sty_rng h
 obtain ⟨h7, h8⟩ := dash_rng h6
 have k1 := Qm (x := T.w) Zo; have k2 := Qm (x := T.m) Zo; have k3 := Qm (x := T.p) Zo; have k4 := Qm (x := (T.d.length : Int)) Zo
 have k5 := Ur (l := R7) (f := 1) (k := T.j) Zd
 have k6 := Ur (l := U1) (f := 3) (k := T.c) Zd
 have k7 := Zw (f := K6) (n := 21) (l := T.d) fun z hz => Qm (by have := h7 z hz; omega)
 refine ⟨?_, by rw [penW_len]; omega⟩
 rw [penW_eq, P3]
 simp only [penH, M2]
 omega
theorem imW_le {m : Im} (h : Uy m = true) (hn : m.px.length ≤ 1000) : M2 (Xy m) ≤ 8100 ∧ (Xy m).length = 3 := by
 obtain ⟨h1, h2⟩ := im_rng h
 have k1 := Qm h1
 have k2 := Qm h2
 have k3 := hexW_len m.px
 refine ⟨?_, rfl⟩
 simp only [Xy, M2]
 omega
theorem Ux (hv : Lj N = true) (hs : NSm N) : (∀ ws ∈ Rg N, M2 ws ≤ 50000 ∧ ws.length ≤ 100) ∧ (Rg N).length ≤ 5 := by
 obtain ⟨hk, hid, hdep, hok, hclip, hcl, _, ho⟩ := Uq hv
 obtain ⟨hn1, hfv, hsv, hsty⟩ := nd_paints hv
 have hcn := clipW_len (N := N)
 refine ⟨fun ws hw => ?_, by rw [lns_eq]; simp [Rn]; omega⟩
 rw [lns_eq] at hw
 have q1 := Qm (x := N.id) Zo; have q2 := Qm (x := N.dep) Zo; have q3 := Qm (x := (N.op.toNat : Int)) (by have := op_rng N.op; omega)
 rcases List.mem_append.1 hw with hw | hw
 rcases List.mem_append.1 hw with hw | hw
 rcases List.mem_append.1 hw with hw | hw
 ·simp only [Rn, List.mem_cons, List.not_mem_nil, or_false] at hw
  rcases hw with rfl | rfl
  ·unfold ownB at ho
   unfold Kz
   by_cases k1 : N.kind = 1
   ·rw [if_pos k1]
    have k5 := Ur (l := Ms) (f := 1) (k := N.bl) Zd
    have k6 : ∀ b : Bool, (Y9 b).length ≤ 1 := fun b => by cases b <;> decide
    have k7 := k6 N.iso
    have k8 := k6 N.ko
    simp only [M2, List.length_cons, List.length_nil]
    omega
   rw [if_neg k1] at ho ⊢
   by_cases k2 : N.kind = 2
   ·rw [if_pos k2] at ho ⊢
    unfold U7 at ho
    simp only [Bool.and_eq_true] at ho
    have k5 := Ur (l := Lq) (f := 1) (k := N.frule) Zd
    have k6 := fmtP_le ho.1
    simp only [M2, List.length_cons, List.length_nil]
    omega
   rw [if_neg k2, Bool.and_eq_true] at ho
   rw [if_neg k2]
   have k5 := Ur (l := P5) (f := 1) (k := N.samp) Zd
   obtain ⟨k6, k7⟩ := imW_le ho.1 hs.im
   rw [P3, List.length_append, k7]
   simp only [M2, List.length_cons, List.length_nil]
   omega
  ·obtain ⟨k1, k2⟩ := affW_len hok
   unfold Qq
   simp only [M2, List.length_cons, List.length_nil]
   omega
 ·unfold Re at hw
  split at hw
  ·cases hw
  ·obtain rfl : ws = _ := by simpa using hw
   have k5 := Ur (l := Lq) (f := 1) (k := N.crule) Zd
   have k6 := fmtP_le hclip
   simp only [M2, List.length_cons, List.length_nil]
   omega
 ·obtain ⟨P, hP, rfl⟩ := List.mem_map.1 hw
  obtain ⟨k1, k2⟩ := Vi (hfv P hP)
  have k3 := hs.fi P hP
  unfold M8
  simp only [M2, List.length_cons, List.length_nil]
  omega
 ·obtain ⟨P, hP, rfl⟩ := List.mem_map.1 hw
  obtain ⟨k1, k2⟩ := Vi (hsv P hP)
  have k3 := hs.st P hP
  obtain ⟨k4, k5⟩ := penW_le (hsty fun h => by rw [List.length_eq_zero_iff] at h; rw [h] at hP; cases hP)
  unfold Km
  simp only [M2, List.length_cons, List.length_nil, P3, List.length_append]
  omega
theorem lns_two (hv : Lj N = true) (hs : NSm N) : ∀ ws ∈ Rg N, ws.length ≤ 2000000 ∧ M2 ws ≤ 2000000 := fun ws hw => by have := (Ux hv hs).1 ws hw; omega
theorem nodeJ (hv : Lj N = true) (hs : NSm N) : M2 ((Rg N).map Lc) ≤ 800000 := by
 obtain ⟨h1, h2⟩ := Ux hv hs
 have := Zw (f := Lc) (n := 150200) (l := Rg N) fun ws hw => by have := T5 ws; have := h1 ws hw; omega
 omega
theorem sizeJ (h : sizeX S = false) : (Sp S).length = 4 ∧ M2 (Sp S) ≤ 100 := by
 unfold sizeX at h
 simp only [Bool.or_eq_false_iff, decide_eq_false_iff_not] at h
 have q1 := Qm (x := S.w) Zo; have q2 := Qm (x := S.h) Zo
 have q3 : (Na S.bg).length = 9 := by unfold Na; rw [List.length_cons, R9]; rfl
 refine ⟨rfl, ?_⟩
 unfold Sp
 simp only [M2, List.length_cons, List.length_nil]
 omega
def Ud (S : Sc) (k : Nat) : List (List UInt8) := Lc (Sp S) :: (S.nds.take k).flatMap fun N => (Rg N).map Lc
theorem scP_all : Ud S S.nds.length = scL S := by unfold Ud scL; rw [List.take_length]
theorem scP_snoc {k : Nat} (hx : S.nds[k]? = some N) : Ud S (k + 1) = Ud S k ++ (Rg N).map Lc := by
 unfold Ud
 rw [S1 hx]
 simp
def ndAll (S : Sc) : Prop := ∀ N ∈ S.nds, Lj N = true ∧ NSm N
theorem scP_len (h : ndAll S) : ∀ {k : Nat}, k ≤ S.nds.length → (Ud S k).length ≤ 1 + 5 * k ∧ M2 (Ud S k) ≤ (Lc (Sp S)).length + 800000 * k
 | 0, _ => by unfold Ud; simp [M2]
 | k + 1, hk => by
  obtain ⟨N, hx⟩ : ∃ v, S.nds[k]? = some v := ⟨_, List.getElem?_eq_getElem (show k < S.nds.length by omega)⟩
  obtain ⟨hv, hs⟩ := h N (List.mem_of_getElem? hx)
  obtain ⟨h1, h2⟩ := scP_len h (k := k) Zo
  have h3 := (Ux hv hs).2
  have h4 := nodeJ hv hs
  rw [scP_snoc hx, List.length_append, List.length_map, P3]
  omega
theorem nds_mem {l : List Nd} : ∀ {pre : List Nd}, X4 pre l = true → ∀ M ∈ l, Lj M = true := by
 induction l with
 | nil => exact fun _ M hM => by cases hM
 | cons x r ih =>
  intro pre h M hM
  have h2 := Bool.and_eq_true_iff.1 (show (Lj x && (!decide (x.id ∈ pre.map (·.id)) && (!decide (x.dep > mxd pre) && X4 (pre ++ [x]) r))) = true from h)
  rcases List.mem_cons.1 hM with rfl | hM
  ·exact h2.1
  ·exact ih (Bool.and_eq_true_iff.1 (Bool.and_eq_true_iff.1 h2.2).2).2 M hM
theorem sc_parts (h : scOK S = true) : sizeX S = false ∧ S.nds.length ≤ 64 ∧ ∀ N ∈ S.nds, Lj N = true := by
 unfold scOK at h
 simp only [Bool.and_eq_true, Bool.not_eq_true', decide_eq_false_iff_not] at h
 exact ⟨h.1, by omega, nds_mem h.2.2⟩
end
section
open Go.RowKit
--ATNAMES
section
variable {w : World} {B : Bool} {K n c : Nat} {S : Sc} {y : Option Addr × Nat} {nl : List (Nd × ND)}
theorem format_no (hE : ET w) (hp : Yc w y.1 nl K S.nds) (hf : NFs S.nds) (hK : 2 ≤ K ∧ K ≤ 1000) (hB : scOK S = false) : Calls Tryz.prog 6 #[soV S y] w (K5 w (fun _ : Unit => .tuple #[K3 [], .int .i64 18]) fun _ _ => True) := by
 refine K0.enter Tryz.func6 rfl ?_
 refine ZR ?_
 refine ZC (fun w1 hw h => svalid_v (y := y) (hE.below hw) (hp.below hw) hf Zo hB) fun u => ?_
 refine ZI true ?_
 exact ZW (.tuple #[K3 [], .int .i64 18])
def outV (S : Sc) : Value := if (scT S).length ≤ 65536 then .tuple #[K3 (scT S), .int .i64 0] else .tuple #[K3 [], .int .i64 5]
theorem format_yes (hE : ET w) (hp : Yc w y.1 nl K S.nds) (hf : NFs S.nds) (hs : ∀ N ∈ S.nds, NSm N) (hn : S.nds.length ≤ 12) (hK : 2 ≤ K ∧ K ≤ 1000) (hB : scOK S = true) : Calls Tryz.prog 6 #[soV S y] w (K5 w (fun _ : Unit => outV S) fun _ _ => True) := by
 obtain ⟨hz, _, hv⟩ := sc_parts hB
 have hall : ndAll S := fun N hN => ⟨hv N hN, hs N hN⟩
 obtain ⟨j1, j2⟩ := sizeJ hz
 have j3 := T5 (Sp S)
 have hzr : (-9223372036854775808 ≤ S.w ∧ S.w ≤ 9223372036854775807) ∧ (-9223372036854775808 ≤ S.h ∧ S.h ≤ 9223372036854775807) := by
  unfold sizeX at hz
  simp only [Bool.or_eq_false_iff, decide_eq_false_iff_not] at hz
  omega
 have hlen := scP_len hall (k := S.nds.length) (Nat.le_refl _)
 rw [scP_all] at hlen
 refine K0.enter Tryz.func6 rfl ?_
 refine ZR ?_
 refine ZC (fun w1 hw h => svalid_v (y := y) (hE.below hw) (hp.below hw) hf Zo hB) fun u => ?_
 refine ZI false ?_
 refine ZC (fun w1 hw h => Kk (n := S.w) hzr.1.1 hzr.1.2) fun u0 => ?_
 refine ZC (fun w1 hw h => Kk (n := S.h) hzr.2.1 hzr.2.2) fun u1 => ?_
 refine ZC (fun w1 hw h => Y1 (k := S.bg)) fun u2 => ?_
 refine K0.make (Ks (64) 4 #[(0, K3 [115, 99, 101, 110, 101]), (1, K3 (K6 S.w)), (2, K3 (K6 S.h)), (3, K3 (Na S.bg))]) (Kb 4) (Kp 9 #[K3 [115, 99, 101, 110, 101], K3 (K6 S.w), K3 (K6 S.h), K3 (Na S.bg)]) Zk (fun w1 hw h => K8 Zk) (fun ga => ?_)
 refine ZR ?_
 refine ZC (fun w1 hw h => Sv (A := some ⟨ga, 0, none⟩) (n := 4) (c := 4) (ls := Sp S) (L3 (L := Sp S) h.2 rfl) Zo Zo) fun u3 => ?_
 refine K0.make (Ks 64 1 #[(0, K3 (Lc (Sp S)))]) (Kb 1) (fun g u => K7 u w.heap.size 9 1 (some ⟨g, 0, none⟩) 1 1 (sv (Ud S 0))) Zk (fun w1 hw h => Uu (cells := #[K3 (Lc (Sp S))]) Zk hw.size rfl Zd) (fun gb => ?_)
 refine ZR ?_
 refine K0.loop (ι := {p : Nat × (Option Addr × Nat) // p.1 ≤ S.nds.length}) 41 (fun p => ⟨[(4, .v (.slice p.1.2.1 (Ud S p.1.1).length p.1.2.2)), (24, .v (.slice y.1 S.nds.length y.2)), (25, .v (.int .i64 S.nds.length)), (26, .v (.int .i64 p.1.1))], []⟩) (fun p u => K7 u w.heap.size 9 1 p.1.2.1 (Ud S p.1.1).length p.1.2.2 (sv (Ud S p.1.1))) (fun p => S.nds.length - p.1.1) (⟨(0, (some ⟨gb, 0, none⟩, 1)), Nat.zero_le _⟩) Zk (fun _ => by kernel_rfl) ⟨Zk, Zk, Zk⟩ (fun u h => h.2) ?_
 rintro ⟨⟨k, z⟩, hk⟩ gg
 have hk : k ≤ S.nds.length := hk
 by_cases hlt : k < S.nds.length
 case pos =>
  obtain ⟨N, hx⟩ : ∃ v, S.nds[k]? = some v := ⟨_, List.getElem?_eq_getElem hlt⟩
  obtain ⟨q, hx2, hrd⟩ := hp.get hx
  obtain ⟨ad, hA, hc⟩ := hp.row.2 k _ hx2
  have hNm := List.mem_of_getElem? hx
  obtain ⟨hNv, hNs⟩ := hall N hNm
  have hkl := (scP_len hall (k := k) hk).1
  have hl5 := (Ux hNv hNs).2
  refine ZR ?_
  refine ZJ (decide ((k : Int) < (S.nds.length : Int))) true Zp ?_
  refine ZA (Ke 24 (.slice y.1 S.nds.length y.2) k) (.pointer (some (ad.add (k * 47)))) (fun w1 hw h => Mi hA hlt) ?_
  refine ZA (L7 48 (ad.add (k * 47))) (noV N q) (fun w1 hw h => Xk fun j v hj => Ky hw (hc j v hj)) ?_
  refine ZD 3 (fun w1 hw h => lines_w (hrd.below hw) (hf N hNm) hNv hK (lns_two hNv hNs)) fun r => ?_
  refine K0.mutOp (L := bl z.1) (val := fun (z2 : Option Addr × Nat) => .slice z2.1 ((Ud S k).length + (Rg N).length) z2.2) (Φ' := fun (z2 : Option Addr × Nat) u => K7 u w.heap.size 9 1 z2.1 ((Ud S k).length + (Rg N).length) z2.2 (sv (Ud S k ++ (Rg N).map Lc))) (G := fun (z2 : Option Addr × Nat) u => K7 u w.heap.size 9 1 z2.1 ((Ud S k).length + (Rg N).length) z2.2 (sv (Ud S k ++ (Rg N).map Lc))) (Lh 64 64 (.slice z.1 (Ud S k).length z.2) (.slice r.1 (Rg N).length r.2)) (fun w1 hw h => Me (m := (Ud S k).length) h.1 hw.size h.2 Zo) (fun u h => h.1.blk) (fun _ wa u e1 e2 h hG => hG) Zk Zk (fun z2 => ?_)
  refine ZR ?_
  refine K0.slot 26 (.int .i64 (IntKind.i64.wrap ((k : Int) + 1))) (.int .i64 ((k + 1 : Nat) : Int)) Zk (by rw [Kc hlt Zo]) ?_
  refine K0.slot 4 (.slice z2.1 ((Ud S k).length + (Rg N).length) z2.2) (.slice z2.1 (Ud S (k + 1)).length z2.2) Zk (by rw [scP_snoc hx, List.length_append, List.length_map]) ?_
  refine K0.next (⟨(k + 1, z2), by show k + 1 ≤ S.nds.length; omega⟩) Zk (by show S.nds.length - (k + 1) < S.nds.length - k; omega) ⟨Zk, Zk, Zk⟩ (fun u h => by show K7 u w.heap.size 9 1 z2.1 (Ud S (k + 1)).length z2.2 (sv (Ud S (k + 1))); rw [scP_snoc hx, List.length_append, List.length_map]; exact h)
 obtain rfl : k = S.nds.length := by omega
 refine ZR ?_
 refine ZJ (decide ((S.nds.length : Int) < (S.nds.length : Int))) false Zs ?_
 refine K0.leave Zk ?_
 refine ZR ?_
 refine K0.callv (fun w1 hw h => by have t := joinLines_m (w := w1) (A := z.1) (n := (Ud S S.nds.length).length) (c := z.2) (ls := Ud S S.nds.length) (show K7 w1 w.heap.size 9 1 z.1 (Ud S S.nds.length).length z.2 (sv (Ud S S.nds.length)) from h).strs (by rw [scP_all]; omega) (by rw [scP_all]; omega); exact t) Zk (fun t => ?_)
 have eT : Lw (Ud S S.nds.length) = scT S := by rw [scP_all]; rfl
 rw [eT]
 refine ZR ?_
 unfold outV
 by_cases hle : (scT S).length ≤ 65536
 ·rw [if_pos hle]
  refine ZJ (decide (((scT S).length : Int) > 65536)) false (decide_eq_false Zo) ?_
  exact ZW (.tuple #[K3 (scT S), .int .i64 0])
 ·rw [if_neg hle]
  refine ZJ (decide (((scT S).length : Int) > 65536)) true (decide_eq_true Zo) ?_
  exact ZW (.tuple #[K3 [], .int .i64 5])
end
end
end Go.Proofs.YtdeepdckmhpldaaGreatDoor
