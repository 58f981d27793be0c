/-
 Paints as text: the reader.
-/
import Derived.Test.YtncodmhgfkailaaGreatDoorAUQ
import Derived.Test.YtncodmhgfkailaaGreatDoorTA
import Derived.Test.YtncodmhgfkailaaGreatDoorAO
import Derived.Recover
import Derived.Test.YtncodmhgfkailaaGreatDoorVD
namespace Go.Proofs.YtncodmhgfkailaaGreatDoor
set_option maxRecDepth 100000
set_option maxHeartbeats 8000000
set_option linter.unusedVariables false
set_option linter.unusedSimpArgs false
open Go.RowKit
abbrev WS := List (List UInt8)
abbrev Co := UInt8 × UInt8 × UInt8 × UInt8
def coB (c : Co) : List UInt8 := [c.1, c.2.1, c.2.2.1, c.2.2.2]
structure Im where
 w : Int
 h : Int
 px : List Co
structure Pn where
 kind : Int
 co : Co
 p0x : Int
 p0y : Int
 p1x : Int
 p1y : Int
 rad : Int
 stops : List (Int × Co)
 spread : Int
 im : Im
 samp : Int
 T : Aff
def Pp : Co := (0, 0, 0, 0)
def im0 : Im := ⟨0, 0, []⟩
def Nw : Aff := ⟨0, 0, 0, 0, 0, 0⟩
def pn0 : Pn := ⟨0, Pp, 0, 0, 0, 0, 0, [], 0, im0, 0, Nw⟩
def Kq : WS := [[110, 111, 110, 101], [112, 97, 100], [114, 101, 112, 101, 97, 116], [114, 101, 102, 108, 101, 99, 116]]
def Mf : WS := [[110, 101, 97, 114, 101, 115, 116], [98, 105, 108, 105, 110, 101, 97, 114]]
def Nj : List UInt8 := [115, 111, 108, 105, 100]
def Kp : List UInt8 := [108, 105, 110, 101, 97, 114]
def Ku : List UInt8 := [114, 97, 100, 105, 97, 108]
def Kn : List UInt8 := [112, 97, 116, 116, 101, 114, 110]
def Me (l : WS) (frm : Int) (k : Int) : List UInt8 := (l[(k - frm).toNat]?).getD []
def Lr (T : Aff) : WS := [Kk T.a, Kk T.b, Kk T.c, Kk T.d, Kk T.e, Kk T.f]
def Mp (c : Co) : List UInt8 := 35 :: Nz (coB c)
def hexW (px : List Co) : List UInt8 := Nz (px.flatMap coB)
def imW (m : Im) : WS := [K7 m.w, K7 m.h, hexW m.px]
def stW (l : List (Int × Co)) : WS := l.flatMap fun x => [K7 x.1, Mp x.2]
def Qe (P : Pn) : WS :=
 if P.kind = 1 then [Nj, Mp P.co]
 else if P.kind = 4 then [Kn, Me Kq 0 P.spread, Me Mf 1 P.samp] ++ Lr P.T ++ imW P.im
 else if P.kind = 2 then [Kp, K7 P.p0x, K7 P.p0y, K7 P.p1x, K7 P.p1y, Me Kq 0 P.spread] ++ Lr P.T ++ stW P.stops
 else [Ku, K7 P.p0x, K7 P.p0y, K7 P.rad, Me Kq 0 P.spread] ++ Lr P.T ++ stW P.stops
def mnI : Int := -9223372036854775808
def mxI : Int := 9223372036854775807
def rdI (lo hi : Int) (f : Bool) : WS → Option (Int × Bool × WS × Bool)
 | [] => none
 | s :: r => if Pd s lo hi = 0 then some (prgV s lo hi, true, r, f) else if Pd s lo hi = 6 then some (0, false, r, true) else none
def rdN (f : Bool) (ws : WS) : Option (Int × WS × Bool) := (rdI mnI mxI f ws).map fun x => (x.1, x.2.2.1, x.2.2.2)
def idxW (s : List UInt8) : WS → Option Nat
 | [] => none
 | x :: l => if x = s then some 0 else (idxW s l).map (· + 1)
def rdW (l : WS) (frm : Int) (f : Bool) : WS → Option (Int × WS × Bool)
 | [] => none
 | s :: r => (idxW s l).map fun (k : Nat) => (frm + (k : Int), r, f)
def Qf (s : List UInt8) : Option Co :=
 if s.length = 9 ∧ s[0]? = some 35 then (match decL (s.drop 1) with
  | some [r, g, b, a] => some (r, g, b, a)
  | _ => none) else none
def rdC (f : Bool) : WS → Option (Co × WS × Bool)
 | [] => none
 | s :: r => (Qf s).map fun c => (c, r, f)
def rdQ (f : Bool) : WS → Option (Rat × WS × Bool)
 | [] => none
 | s :: r => if pqE s = 0 then some (pqV s, r, f) else none
def rdA (f : Bool) (ws : WS) : Option (Aff × WS × Bool) :=
 (rdQ f ws).bind fun a => (rdQ a.2.2 a.2.1).bind fun b => (rdQ b.2.2 b.2.1).bind fun c => (rdQ c.2.2 c.2.1).bind fun d => (rdQ d.2.2 d.2.1).bind fun e => (rdQ e.2.2 e.2.1).map fun g =>
  (⟨a.1, b.1, c.1, d.1, e.1, g.1⟩, g.2.1, g.2.2)
def Ld : List UInt8 → List Co
 | r :: g :: b :: a :: l => (r, g, b, a) :: Ld l
 | _ => []
def rdIm (f : Bool) (ws : WS) : Option (Im × WS × Bool) :=
 (rdI 1 4096 f ws).bind fun x => (rdI 1 4096 x.2.2.2 x.2.2.1).bind fun y => match y.2.2.1 with
  | [] => none
  | s :: r => match decL s with
   | none => none
   | some b => if b.length % 4 ≠ 0 then none else if x.2.1 = false ∨ y.2.1 = false ∨ x.1 * y.1 > 65536 then some (im0, r, true)
    else if (b.length : Int) ≠ 4 * x.1 * y.1 then none else some (⟨x.1, y.1, Ld b⟩, r, y.2.2.2)
def rdS : Bool → WS → Option (List (Int × Co) × Bool)
 | f, [] => some ([], f)
 | _, [_] => none
 | f, s :: c :: r => (rdN f [s]).bind fun x => (Qf c).bind fun k => (rdS x.2.2 r).map fun l => ((x.1, k) :: l.1, l.2)
def rdP2 (f : Bool) (ws : WS) : Option ((Int × Int) × WS × Bool) := (rdN f ws).bind fun x => (rdN x.2.2 x.2.1).map fun y => ((x.1, y.1), y.2.1, y.2.2)
def rdLin (f : Bool) (ws : WS) : Option (Pn × Bool) :=
 (rdP2 f ws).bind fun p => (rdP2 p.2.2 p.2.1).bind fun q => (rdW Kq 0 q.2.2 q.2.1).bind fun k => (rdA k.2.2 k.2.1).bind fun t => (rdS t.2.2 t.2.1).map fun l =>
  (⟨2, Pp, p.1.1, p.1.2, q.1.1, q.1.2, 0, l.1, k.1, im0, 0, t.1⟩, l.2)
def rdRad (f : Bool) (ws : WS) : Option (Pn × Bool) :=
 (rdP2 f ws).bind fun p => (rdN p.2.2 p.2.1).bind fun n => (rdW Kq 0 n.2.2 n.2.1).bind fun k => (rdA k.2.2 k.2.1).bind fun t => (rdS t.2.2 t.2.1).map fun l =>
  (⟨3, Pp, p.1.1, p.1.2, 0, 0, n.1, l.1, k.1, im0, 0, t.1⟩, l.2)
def rdPat (f : Bool) (ws : WS) : Option (Pn × Bool) :=
 (rdW Kq 0 f ws).bind fun k => (rdW Mf 1 k.2.2 k.2.1).bind fun n => (rdA n.2.2 n.2.1).bind fun t => (rdIm t.2.2 t.2.1).bind fun m =>
  if m.2.1 = [] then some (⟨4, Pp, 0, 0, 0, 0, 0, [], k.1, m.1, n.1, t.1⟩, m.2.2) else none
def rdSol (f : Bool) (ws : WS) : Option (Pn × Bool) := (rdC f ws).bind fun c => if c.2.1 = [] then some (⟨1, c.1, 0, 0, 0, 0, 0, [], 0, im0, 0, Nw⟩, c.2.2) else none
def rdPn (f : Bool) : WS → Option (Pn × Bool)
 | [] => none
 | k :: r => if k = Nj then rdSol f r else if k = Kp then rdLin f r else if k = Ku then rdRad f r else if k = Kn then rdPat f r else none
theorem Ou (lo hi : Int) (f : Bool) (s : List UInt8) (r : WS) : rdI lo hi f (s :: r) = if Pd s lo hi = 0 then some (prgV s lo hi, true, r, f) else if Pd s lo hi = 6 then some (0, false, r, true) else none := rfl
theorem Kr (f : Bool) (s : List UInt8) (r : WS) : rdQ f (s :: r) = if pqE s = 0 then some (pqV s, r, f) else none := rfl
theorem Pc (f : Bool) (k : List UInt8) (r : WS) : rdPn f (k :: r) = if k = Nj then rdSol f r else if k = Kp then rdLin f r else if k = Ku then rdRad f r else if k = Kn then rdPat f r else none := rfl
theorem Nh (s x : List UInt8) (l : WS) : idxW s (x :: l) = if x = s then some 0 else (idxW s l).map (· + 1) := rfl
theorem prg_full {s : List UInt8} : Pd s mnI mxI = piE s ∧ prgV s mnI mxI = piV s := by
 have h1 : Pd s mnI mxI = piE s := by
  unfold Pd
  split
  ·rename_i h
   have := (fmt_pi h).2
   rw [if_neg (by unfold mnI mxI; omega), h]
  ·rfl
 refine ⟨h1, ?_⟩
 unfold prgV
 rw [h1]
 unfold piV
 split <;> simp_all
theorem rdI_clean {lo hi : Int} {f b : Bool} {ws r : WS} {z : Int} (h : rdI lo hi f ws = some (z, b, r, false)) : b = true ∧ f = false ∧ ws = K7 z :: r ∧ lo ≤ z ∧ z ≤ hi ∧ -9223372036854775808 ≤ z ∧ z ≤ 9223372036854775807 := by
 cases ws with
 | nil => cases h
 | cons s r' =>
  rw [Ou] at h
  split at h
  ·rename_i h0
   cases h
   have hv : prgV s lo hi = piV s := by unfold prgV; rw [if_pos h0]
   have hp : piE s = 0 := by
    unfold Pd at h0
    split at h0
    ·assumption
    ·rename_i h1; exact absurd h0 h1
   have hr : ¬ (piV s < lo ∨ hi < piV s) := fun hc => by
    unfold Pd at h0
    rw [if_pos hp, if_pos hc] at h0
    exact absurd h0 Zd
   obtain ⟨h1, h2, h3⟩ := fmt_pi hp
   rw [hv]
   refine ⟨rfl, rfl, by rw [h1], by omega, by omega, h2, h3⟩
  ·split at h
   ·cases h
   ·cases h
theorem rdN_clean {f : Bool} {ws r : WS} {z : Int} (h : rdN f ws = some (z, r, false)) : f = false ∧ ws = K7 z :: r ∧ -9223372036854775808 ≤ z ∧ z ≤ 9223372036854775807 := by
 unfold rdN at h
 obtain ⟨⟨z', b, r', f'⟩, h1, h2⟩ := Option.map_eq_some_iff.1 h
 cases h2
 obtain ⟨_, h3, h4, _, _, h5, h6⟩ := rdI_clean h1
 exact ⟨h3, h4, h5, h6⟩
theorem idxW_get : ∀ {l : WS} {s : List UInt8} {k : Nat}, idxW s l = some k → l[k]? = some s
 | [], s, k, h => by cases h
 | x :: l, s, k, h => by
  rw [Nh] at h
  split at h
  ·rename_i e; cases h; rw [e]; rfl
  ·obtain ⟨j, h1, rfl⟩ := Option.map_eq_some_iff.1 h
   rw [List.getElem?_cons_succ]; exact idxW_get h1
theorem rdW_clean {l : WS} {frm : Int} {f g : Bool} {ws r : WS} {z : Int} (h : rdW l frm f ws = some (z, r, g)) : g = f ∧ ws = Me l frm z :: r ∧ frm ≤ z ∧ z < frm + l.length := by
 cases ws with
 | nil => cases h
 | cons s r' =>
  unfold rdW at h
  obtain ⟨k, h1, h2⟩ := Option.map_eq_some_iff.1 h
  cases h2
  have h3 := idxW_get h1
  have h4 := (List.getElem?_eq_some_iff.1 h3).1
  refine ⟨rfl, ?_, by omega, by omega⟩
  unfold Me
  rw [show (frm + (k : Int) - frm).toNat = k by omega, h3]; rfl
theorem colW_P {s : List UInt8} {c : Co} (h : Qf s = some c) : Mp c = s := by
 unfold Qf at h
 split at h
 ·rename_i h0
  obtain ⟨h1, h2⟩ := h0
  split at h
  ·rename_i r g b a hd
   cases h
   have := Qw hd
   unfold Mp
   show 35 :: Nz [r, g, b, a] = s
   rw [this]
   cases s with
   | nil => cases h2
   | cons x s => simp at h2; subst h2; rfl
  ·cases h
 ·cases h
theorem colP_W (c : Co) : Qf (Mp c) = some c := by
 obtain ⟨r, g, b, a⟩ := c
 unfold Qf Mp
 have hl : (Nz (coB (r, g, b, a))).length = 8 := by rw [Na]; rfl
 rw [if_pos ⟨by rw [List.length_cons, hl], rfl⟩, List.drop_one, List.tail_cons, decL_enc]
 rfl
theorem rdC_clean {f g : Bool} {ws r : WS} {c : Co} (h : rdC f ws = some (c, r, g)) : g = f ∧ ws = Mp c :: r := by
 cases ws with
 | nil => cases h
 | cons s r' =>
  unfold rdC at h
  obtain ⟨k, h1, h2⟩ := Option.map_eq_some_iff.1 h
  cases h2
  exact ⟨rfl, by rw [colW_P h1]⟩
theorem rdQ_clean {f g : Bool} {ws r : WS} {q : Rat} (h : rdQ f ws = some (q, r, g)) : g = f ∧ ws = Kk q :: r := by
 cases ws with
 | nil => cases h
 | cons s r' =>
  rw [Kr] at h
  split at h
  ·rename_i h0
   cases h
   exact ⟨rfl, by rw [fmtQ_read h0]⟩
  ·cases h
theorem rdA_clean {f g : Bool} {ws r : WS} {T : Aff} (h : rdA f ws = some (T, r, g)) : g = f ∧ ws = Lr T ++ r := by
 unfold rdA at h
 obtain ⟨⟨a, r1, f1⟩, h1, h⟩ := Option.bind_eq_some_iff.1 h
 obtain ⟨⟨b, r2, f2⟩, h2, h⟩ := Option.bind_eq_some_iff.1 h
 obtain ⟨⟨c, r3, f3⟩, h3, h⟩ := Option.bind_eq_some_iff.1 h
 obtain ⟨⟨d, r4, f4⟩, h4, h⟩ := Option.bind_eq_some_iff.1 h
 obtain ⟨⟨e, r5, f5⟩, h5, h⟩ := Option.bind_eq_some_iff.1 h
 obtain ⟨⟨x, r6, f6⟩, h6, h⟩ := Option.map_eq_some_iff.1 h
 cases h
 obtain ⟨rfl, rfl⟩ := rdQ_clean h1
 obtain ⟨rfl, rfl⟩ := rdQ_clean h2
 obtain ⟨rfl, rfl⟩ := rdQ_clean h3
 obtain ⟨rfl, rfl⟩ := rdQ_clean h4
 obtain ⟨rfl, rfl⟩ := rdQ_clean h5
 obtain ⟨rfl, rfl⟩ := rdQ_clean h6
 exact ⟨rfl, rfl⟩
theorem quads_flat : ∀ (n : Nat) (b : List UInt8), b.length = 4 * n → (Ld b).flatMap coB = b ∧ (Ld b).length = n
 | 0, b, h => by
  obtain rfl : b = [] := List.length_eq_zero_iff.1 Zo
  exact ⟨rfl, rfl⟩
 | n + 1, b, h => by
  match b, h with
  | x :: y :: z :: u :: l, h =>
   obtain ⟨h1, h2⟩ := quads_flat n l (by simp only [List.length_cons] at h; omega)
   exact ⟨by show coB (x, y, z, u) ++ (Ld l).flatMap coB = _; rw [h1]; rfl, by show (Ld l).length + 1 = _; rw [h2]⟩
theorem flat_quads : ∀ px : List Co, Ld (px.flatMap coB) = px
 | [] => rfl
 | c :: px => by
  have := flat_quads px
  show c :: Ld (px.flatMap coB) = _
  rw [this]
theorem rdIm_clean {f : Bool} {ws r : WS} {m : Im} (h : rdIm f ws = some (m, r, false)) : f = false ∧ ws = imW m ++ r ∧ (1 ≤ m.w ∧ m.w ≤ 4096) ∧ (1 ≤ m.h ∧ m.h ≤ 4096) ∧ m.w * m.h ≤ 65536 ∧ (m.px.length : Int) = m.w * m.h := by
 unfold rdIm at h
 obtain ⟨⟨x, bx, r1, f1⟩, h1, h⟩ := Option.bind_eq_some_iff.1 h
 obtain ⟨⟨y, by_, r2, f2⟩, h2, h⟩ := Option.bind_eq_some_iff.1 h
 simp only at h h2
 split at h
 ·cases h
 ·rename_i s r3
  split at h
  ·cases h
  ·rename_i b hb
   split at h
   ·cases h
   ·rename_i h4
    split at h
    ·cases h
    ·rename_i hs
     split at h
     ·cases h
     ·rename_i hl
      cases h
      obtain ⟨_, rfl, rfl, h5, h6, _⟩ := rdI_clean h2
      obtain ⟨_, rfl, rfl, h7, h8, _⟩ := rdI_clean h1
      have h4' : b.length = 4 * (b.length / 4) := by omega
      obtain ⟨q1, q2⟩ := quads_flat _ b h4'
      have hl' : (b.length : Int) = 4 * (x * y) := by rw [← Int.mul_assoc]; exact Decidable.not_not.1 hl
      refine ⟨rfl, ?_, ⟨h7, h8⟩, ⟨h5, h6⟩, ?_, ?_⟩
      ·show _ = K7 x :: K7 y :: Nz ((Ld b).flatMap coB) :: r
       rw [q1, Qw hb]
      ·exact Int.not_lt.1 fun hc => hs (.inr (.inr hc))
      ·show ((Ld b).length : Int) = x * y
       rw [q2]; omega
theorem rdS_clean : ∀ {f : Bool} {ws : WS} {l : List (Int × Co)}, rdS f ws = some (l, false) → f = false ∧ ws = stW l
 | f, [], l, h => by
  unfold rdS at h
  cases h; exact ⟨rfl, rfl⟩
 | f, [s], l, h => by unfold rdS at h; cases h
 | f, s :: c :: r, l, h => by
  unfold rdS at h
  obtain ⟨⟨x, r1, f1⟩, h1, h⟩ := Option.bind_eq_some_iff.1 h
  obtain ⟨k, h2, h⟩ := Option.bind_eq_some_iff.1 h
  obtain ⟨⟨l', f2⟩, h3, h⟩ := Option.map_eq_some_iff.1 h
  cases h
  obtain ⟨rfl, h4⟩ := rdS_clean h3
  obtain ⟨rfl, h5, _⟩ := rdN_clean h1
  refine ⟨rfl, ?_⟩
  cases h5
  rw [h4]
  show _ = K7 x :: Mp k :: stW l'
  rw [colW_P h2]
theorem rdP2_clean {f : Bool} {ws r : WS} {p : Int × Int} (h : rdP2 f ws = some (p, r, false)) : f = false ∧ ws = K7 p.1 :: K7 p.2 :: r := by
 unfold rdP2 at h
 obtain ⟨⟨x, r1, f1⟩, h1, h⟩ := Option.bind_eq_some_iff.1 h
 obtain ⟨⟨y, r2, f2⟩, h2, h⟩ := Option.map_eq_some_iff.1 h
 cases h
 obtain ⟨rfl, rfl, _⟩ := rdN_clean h2
 obtain ⟨rfl, rfl, _⟩ := rdN_clean h1
 exact ⟨rfl, rfl⟩
theorem rdPn_clean {f : Bool} {ws : WS} {P : Pn} (h : rdPn f ws = some (P, false)) : f = false ∧ Qe P = ws := by
 cases ws with
 | nil => cases h
 | cons k r =>
  rw [Pc] at h
  split at h
  ·rename_i e
   unfold rdSol at h
   obtain ⟨⟨c, r1, f1⟩, h1, h⟩ := Option.bind_eq_some_iff.1 h
   simp only at h
   split at h
   ·rename_i e2
    cases h
    subst e2
    obtain ⟨rfl, rfl⟩ := rdC_clean h1
    exact ⟨rfl, by rw [e]; rfl⟩
   ·cases h
  ·split at h
   ·rename_i e
    unfold rdLin at h
    obtain ⟨⟨p, r1, f1⟩, h1, h⟩ := Option.bind_eq_some_iff.1 h
    obtain ⟨⟨q, r2, f2⟩, h2, h⟩ := Option.bind_eq_some_iff.1 h
    obtain ⟨⟨n, r3, f3⟩, h3, h⟩ := Option.bind_eq_some_iff.1 h
    obtain ⟨⟨t, r4, f4⟩, h4, h⟩ := Option.bind_eq_some_iff.1 h
    obtain ⟨⟨l, f5⟩, h5, h⟩ := Option.map_eq_some_iff.1 h
    cases h
    obtain ⟨rfl, rfl⟩ := rdS_clean h5
    obtain ⟨rfl, rfl⟩ := rdA_clean h4
    obtain ⟨rfl, rfl, _⟩ := rdW_clean h3
    obtain ⟨rfl, rfl⟩ := rdP2_clean h2
    obtain ⟨rfl, rfl⟩ := rdP2_clean h1
    exact ⟨rfl, by rw [e]; rfl⟩
   ·split at h
    ·rename_i e
     unfold rdRad at h
     obtain ⟨⟨p, r1, f1⟩, h1, h⟩ := Option.bind_eq_some_iff.1 h
     obtain ⟨⟨q, r2, f2⟩, h2, h⟩ := Option.bind_eq_some_iff.1 h
     obtain ⟨⟨n, r3, f3⟩, h3, h⟩ := Option.bind_eq_some_iff.1 h
     obtain ⟨⟨t, r4, f4⟩, h4, h⟩ := Option.bind_eq_some_iff.1 h
     obtain ⟨⟨l, f5⟩, h5, h⟩ := Option.map_eq_some_iff.1 h
     cases h
     obtain ⟨rfl, rfl⟩ := rdS_clean h5
     obtain ⟨rfl, rfl⟩ := rdA_clean h4
     obtain ⟨rfl, rfl, _⟩ := rdW_clean h3
     obtain ⟨rfl, rfl, _⟩ := rdN_clean h2
     obtain ⟨rfl, rfl⟩ := rdP2_clean h1
     exact ⟨rfl, by rw [e]; rfl⟩
    ·split at h
     ·rename_i e
      unfold rdPat at h
      obtain ⟨⟨k1, r1, f1⟩, h1, h⟩ := Option.bind_eq_some_iff.1 h
      obtain ⟨⟨n, r2, f2⟩, h2, h⟩ := Option.bind_eq_some_iff.1 h
      obtain ⟨⟨t, r3, f3⟩, h3, h⟩ := Option.bind_eq_some_iff.1 h
      obtain ⟨⟨m, r4, f4⟩, h4, h⟩ := Option.bind_eq_some_iff.1 h
      simp only at h
      split at h
      ·rename_i e2
       cases h
       subst e2
       obtain ⟨rfl, rfl, _⟩ := rdIm_clean h4
       obtain ⟨rfl, rfl⟩ := rdA_clean h3
       obtain ⟨rfl, rfl, _⟩ := rdW_clean h2
       obtain ⟨rfl, rfl, _⟩ := rdW_clean h1
       exact ⟨rfl, by rw [e]; simp [Qe]⟩
      ·cases h
     ·cases h
structure Q7 where
 i : Nat
 syn : Bool
 rng : Bool
def Q7.ok (x : Q7) : Prop := x.syn = false ∧ x.rng = false
def Kv (ws : WS) (x : Q7) : List UInt8 × Q7 := match ws[x.i]? with
 | none => ([], ⟨x.i, true, x.rng⟩)
 | some s => (s, ⟨x.i + 1, x.syn, x.rng⟩)
def Pf (ws : WS) (x : Q7) : Int × Q7 := (piV (Kv ws x).1, ⟨(Kv ws x).2.i, (Kv ws x).2.syn || decide (piE (Kv ws x).1 ≠ 6 ∧ piE (Kv ws x).1 ≠ 0), (Kv ws x).2.rng || decide (piE (Kv ws x).1 = 6)⟩)
def choF (l : WS) (s : List UInt8) : Option Nat := if s = [] then none else idxW s l
def Q5 (ws l : WS) (x : Q7) : Int × Q7 := match choF l (Kv ws x).1 with
 | some k => ((k : Int), (Kv ws x).2)
 | none => (0, ⟨(Kv ws x).2.i, true, (Kv ws x).2.rng⟩)
def colR (ws : WS) (x : Q7) : Co × Q7 := match Qf (Kv ws x).1 with
 | some c => (c, (Kv ws x).2)
 | none => (Pp, ⟨(Kv ws x).2.i, true, (Kv ws x).2.rng⟩)
def Q2 (ws : WS) (x : Q7) : Rat × Q7 := if pqE (Kv ws x).1 = 0 then (pqV (Kv ws x).1, (Kv ws x).2) else (0, ⟨(Kv ws x).2.i, true, (Kv ws x).2.rng⟩)
def afR (ws : WS) (x : Q7) : Aff × Q7 :=
 let a := Q2 ws x; let b := Q2 ws a.2; let c := Q2 ws b.2; let d := Q2 ws c.2; let e := Q2 ws d.2; let g := Q2 ws e.2
 (⟨a.1, b.1, c.1, d.1, e.1, g.1⟩, g.2)
def ptR (ws : WS) (x : Q7) : (Int × Int) × Q7 := let a := Pf ws x; let b := Pf ws a.2; ((a.1, b.1), b.2)
def Pj (w h : Int) : Bool := decide (1 ≤ w ∧ w ≤ 4096 ∧ 1 ≤ h ∧ h ≤ 4096 ∧ w * h ≤ 65536)
def Mr (sized : Bool) (w h : Int) : Option (List UInt8) → Bool
 | none => true
 | some b => decide (b.length % 4 ≠ 0) || (sized && decide ((b.length : Int) ≠ 4 * w * h))
def imR (ws : WS) (x : Q7) : Im × Q7 :=
 let a := Pf ws ⟨x.i, x.syn, false⟩; let b := Pf ws a.2
 let sized := !b.2.rng && Pj a.1 b.1
 let y := Kv ws ⟨b.2.i, b.2.syn, x.rng || !sized⟩
 (⟨a.1, b.1, Ld ((decL y.1).getD [])⟩, ⟨y.2.i, y.2.syn || Mr sized a.1 b.1 (decL y.1), y.2.rng⟩)
def stR (ws : WS) : Nat → Q7 → List (Int × Co) → List (Int × Co) × Q7
 | 0, x, acc => (acc, x)
 | n + 1, x, acc => if x.i < ws.length ∧ x.syn = false then stR ws n (colR ws (Pf ws x).2).2 (acc ++ [((Pf ws x).1, (colR ws (Pf ws x).2).1)]) else (acc, x)
def Pk (ws : WS) (x : Q7) : List (Int × Co) × Q7 := stR ws ws.length x []
def linR (ws : WS) (x : Q7) : Pn × Q7 :=
 let p := ptR ws x; let q := ptR ws p.2; let k := Q5 ws Kq q.2; let t := afR ws k.2; let l := Pk ws t.2
 (⟨2, Pp, p.1.1, p.1.2, q.1.1, q.1.2, 0, l.1, k.1, im0, 0, t.1⟩, l.2)
def radR (ws : WS) (x : Q7) : Pn × Q7 :=
 let p := ptR ws x; let n := Pf ws p.2; let k := Q5 ws Kq n.2; let t := afR ws k.2; let l := Pk ws t.2
 (⟨3, Pp, p.1.1, p.1.2, 0, 0, n.1, l.1, k.1, im0, 0, t.1⟩, l.2)
def patR (ws : WS) (x : Q7) : Pn × Q7 :=
 let k := Q5 ws Kq x; let n := Q5 ws ([] :: Mf) k.2; let t := afR ws n.2; let m := imR ws t.2
 (⟨4, Pp, 0, 0, 0, 0, 0, [], k.1, m.1, n.1, t.1⟩, m.2)
def pnR (ws : WS) (x : Q7) : Pn × Q7 :=
 let k := Q5 ws [[], Nj, Kp, Ku, Kn] x
 if k.1 = 1 then (let c := colR ws k.2; (⟨1, c.1, 0, 0, 0, 0, 0, [], 0, im0, 0, Nw⟩, c.2))
 else if k.1 = 2 then linR ws k.2 else if k.1 = 3 then radR ws k.2 else if k.1 = 4 then patR ws k.2 else (pn0, k.2)
section
variable {ws l : WS} {x y : Q7}
def Sim {α : Type} (ws : WS) (x : Q7) (o : Option (α × WS × Bool)) (p : α × Q7) : Prop :=
 (p.2.ok → x.ok ∧ o = some (p.1, ws.drop p.2.i, false) ∧ p.2.i ≤ ws.length) ∧ ∀ z r, x.ok → o = some (z, r, false) → p.2.ok ∧ p.1 = z
theorem drop_none (h : ws[x.i]? = none) : ws.drop x.i = [] := List.drop_eq_nil_of_le (List.getElem?_eq_none_iff.1 h)
theorem drop_some {s : List UInt8} {i : Nat} (h : ws[i]? = some s) : ws.drop i = s :: ws.drop (i + 1) ∧ i + 1 ≤ ws.length := by
 obtain ⟨h1, h2⟩ := List.getElem?_eq_some_iff.1 h
 exact ⟨by rw [← h2, ← List.drop_eq_getElem_cons h1], h1⟩
theorem num_sim : Sim ws x (rdN false (ws.drop x.i)) (Pf ws x) := by
 cases hx : ws[x.i]? with
 | none =>
  have hf : Kv ws x = ([], ⟨x.i, true, x.rng⟩) := by unfold Kv; rw [hx]
  rw [drop_none hx]
  unfold Pf; rw [hf]
  exact ⟨fun h => absurd h.1 Zs, fun z r _ h => by cases h⟩
 | some s =>
  have hf : Kv ws x = (s, ⟨x.i + 1, x.syn, x.rng⟩) := by unfold Kv; rw [hx]
  obtain ⟨hd, hl⟩ := drop_some hx
  have hr : rdN false (ws.drop x.i) = if piE s = 0 then some (piV s, ws.drop (x.i + 1), false) else if piE s = 6 then some (0, ws.drop (x.i + 1), true) else none := by
   rw [hd]; unfold rdN; rw [Ou]
   rw [prg_full.1, prg_full.2]
   split
   ·rfl
   ·split <;> rfl
  rw [hr]
  unfold Pf; rw [hf]
  refine ⟨fun h => ?_, fun z r hx h => ?_⟩
  ·obtain ⟨h1, h2⟩ := h
   simp only [Bool.or_eq_false_iff, decide_eq_false_iff_not] at h1 h2
   have h0 : piE s = 0 := Decidable.byContradiction fun hc => h1.2 ⟨h2.2, hc⟩
   rw [if_pos h0]
   exact ⟨⟨h1.1, h2.1⟩, rfl, hl⟩
  ·split at h
   ·rename_i h0
    cases h
    refine ⟨⟨?_, ?_⟩, rfl⟩
    ·show (x.syn || decide _) = false
     rw [hx.1, h0]; rfl
    ·show (x.rng || decide _) = false
     rw [hx.2, h0]; rfl
   ·split at h
    ·cases h
    ·cases h
theorem cho_sim (hn : ([] : List UInt8) ∉ l) : Sim ws x (rdW l 0 false (ws.drop x.i)) (Q5 ws l x) := by
 cases hx : ws[x.i]? with
 | none =>
  have hf : Kv ws x = ([], ⟨x.i, true, x.rng⟩) := by unfold Kv; rw [hx]
  rw [drop_none hx]
  unfold Q5; rw [hf]
  exact ⟨fun h => absurd h.1 (by simp [choF]), fun z r _ h => by cases h⟩
 | some s =>
  have hf : Kv ws x = (s, ⟨x.i + 1, x.syn, x.rng⟩) := by unfold Kv; rw [hx]
  obtain ⟨hd, hl⟩ := drop_some hx
  have hc : choF l s = idxW s l := by
   unfold choF
   split
   ·rename_i e
    subst e
    cases h : idxW [] l with
    | none => rfl
    | some k => exact absurd (List.mem_of_getElem? (idxW_get h)) hn
   ·rfl
  have hr : rdW l 0 false (ws.drop x.i) = (idxW s l).map fun (k : Nat) => (0 + (k : Int), ws.drop (x.i + 1), false) := by rw [hd]; rfl
  rw [hr]
  unfold Q5; rw [hf]
  simp only [hc]
  cases idxW s l with
  | none => exact ⟨fun h => absurd h.1 Zs, fun z r _ h => by cases h⟩
  | some k =>
   refine ⟨fun h => ⟨h, by simp, hl⟩, fun z r hx h => ?_⟩
   simp only [Option.map_some, Option.some.injEq, Prod.mk.injEq] at h
   exact ⟨hx, by rw [← h.1]; simp⟩
theorem fld_none (hx : ws[x.i]? = none) : Kv ws x = ([], ⟨x.i, true, x.rng⟩) := by unfold Kv; rw [hx]
theorem fld_some {s : List UInt8} (hx : ws[x.i]? = some s) : Kv ws x = (s, ⟨x.i + 1, x.syn, x.rng⟩) := by unfold Kv; rw [hx]
theorem look_sim : Sim ws x (rdW Mf 1 false (ws.drop x.i)) (Q5 ws ([] :: Mf) x) := by
 cases hx : ws[x.i]? with
 | none =>
  have hf := fld_none hx
  rw [drop_none hx]
  unfold Q5; rw [hf]
  exact ⟨fun h => absurd h.1 (by simp [choF]), fun z r _ h => by cases h⟩
 | some s =>
  have hf := fld_some hx
  obtain ⟨hd, hl⟩ := drop_some hx
  have hc : choF ([] :: Mf) s = (idxW s Mf).map (· + 1) := by
   unfold choF
   split
   ·rename_i e
    subst e
    rfl
   ·rename_i e
    show (if ([] : List UInt8) = s then _ else _) = _
    rw [if_neg (Ne.symm e)]
  have hr : rdW Mf 1 false (ws.drop x.i) = (idxW s Mf).map fun (k : Nat) => (1 + (k : Int), ws.drop (x.i + 1), false) := by rw [hd]; rfl
  rw [hr]
  unfold Q5; rw [hf]
  simp only [hc]
  cases idxW s Mf with
  | none => exact ⟨fun h => absurd h.1 Zs, fun z r _ h => by cases h⟩
  | some k =>
   refine ⟨fun h => ⟨h, by simp; omega, hl⟩, fun z r hx h => ?_⟩
   simp only [Option.map_some, Option.some.injEq, Prod.mk.injEq] at h
   exact ⟨hx, by rw [← h.1]; simp; omega⟩
theorem col_sim : Sim ws x (rdC false (ws.drop x.i)) (colR ws x) := by
 cases hx : ws[x.i]? with
 | none =>
  have hf := fld_none hx
  rw [drop_none hx]
  have hc : Qf [] = none := by unfold Qf; rw [if_neg Zs]
  unfold colR; rw [hf]; simp only [hc]
  exact ⟨fun h => absurd h.1 Zs, fun z r _ h => by cases h⟩
 | some s =>
  have hf := fld_some hx
  obtain ⟨hd, hl⟩ := drop_some hx
  have hr : rdC false (ws.drop x.i) = (Qf s).map fun c => (c, ws.drop (x.i + 1), false) := by rw [hd]; rfl
  rw [hr]
  unfold colR; rw [hf]
  cases hc : Qf s with
  | none => simp only [hc]; exact ⟨fun h => absurd h.1 Zs, fun z r _ h => by cases h⟩
  | some k =>
   simp only [hc]
   refine ⟨fun h => ⟨h, rfl, hl⟩, fun z r hx h => ?_⟩
   simp only [Option.map_some, Option.some.injEq, Prod.mk.injEq] at h
   exact ⟨hx, h.1⟩
theorem Pz : Sim ws x (rdQ false (ws.drop x.i)) (Q2 ws x) := by
 cases hx : ws[x.i]? with
 | none =>
  have hf := fld_none hx
  rw [drop_none hx]
  unfold Q2; rw [hf]
  refine ⟨fun h => ?_, fun z r _ h => by cases h⟩
  have h1 := h.1
  split at h1 <;> cases h1
 | some s =>
  have hf := fld_some hx
  obtain ⟨hd, hl⟩ := drop_some hx
  have hr : rdQ false (ws.drop x.i) = if pqE s = 0 then some (pqV s, ws.drop (x.i + 1), false) else none := by rw [hd]; rfl
  rw [hr]
  unfold Q2; rw [hf]
  by_cases h0 : pqE s = 0
  ·simp only [h0, if_true]
   refine ⟨fun h => ⟨h, rfl, hl⟩, fun z r hx h => ?_⟩
   simp only [Option.some.injEq, Prod.mk.injEq] at h
   exact ⟨hx, h.1⟩
  ·simp only [h0, if_false]
   exact ⟨fun h => absurd h.1 Zs, fun z r _ h => by cases h⟩
theorem Sim.get {α : Type} {o : Option (α × WS × Bool)} {p : α × Q7} {z : α} {r : WS} (h : Sim ws x o p) (hx : x.ok) (ho : o = some (z, r, false)) : p.2.ok ∧ p.1 = z ∧ r = ws.drop p.2.i := by
 obtain ⟨h1, h2⟩ := h.2 z r hx ho
 have h3 := (h.1 h1).2.1
 rw [ho] at h3
 simp only [Option.some.injEq, Prod.mk.injEq, and_true] at h3
 exact ⟨h1, h2, h3.2⟩
theorem Sim.bind {α β γ : Type} {o : Option (α × WS × Bool)} {p : α × Q7} {k : Bool → WS → Option (β × WS × Bool)} {q : β × Q7} (f : α → β → γ)
 (h : Sim ws x o p) (hk : Sim ws p.2 (k false (ws.drop p.2.i)) q) (hc : ∀ g v z r, k g v = some (z, r, false) → g = false) :
 Sim ws x (o.bind fun a => (k a.2.2 a.2.1).map fun b => (f a.1 b.1, b.2.1, b.2.2)) (f p.1 q.1, q.2) := by
 refine ⟨fun h1 => ?_, fun z r hx h1 => ?_⟩
 ·obtain ⟨h2, h3, h4⟩ := hk.1 h1
  obtain ⟨h5, h6, _⟩ := h.1 h2
  refine ⟨h5, ?_, h4⟩
  rw [h6]
  simp only [Option.bind_some, h3, Option.map_some]
 ·obtain ⟨⟨a, r1, f1⟩, h2, h3⟩ := Option.bind_eq_some_iff.1 h1
  obtain ⟨⟨b, r2, f2⟩, h4, h5⟩ := Option.map_eq_some_iff.1 h3
  simp only [Prod.mk.injEq] at h5
  obtain ⟨rfl, rfl, rfl⟩ := h5
  obtain rfl := hc _ _ _ _ h4
  obtain ⟨k1, rfl, rfl⟩ := h.get hx h2
  obtain ⟨k2, rfl, _⟩ := hk.get k1 h4
  exact ⟨k2, rfl⟩
theorem pt_sim : Sim ws x (rdP2 false (ws.drop x.i)) (ptR ws x) :=
 Sim.bind (k := rdN) (fun a b => (a, b)) num_sim num_sim fun g v z r h => (rdN_clean h).1
theorem af_sim : Sim ws x (rdA false (ws.drop x.i)) (afR ws x) := by
 have c : ∀ g v (z : Rat) r, rdQ g v = some (z, r, false) → g = false := fun g v z r h => (rdQ_clean h).1.symm
 refine ⟨fun h => ?_, fun z r hx h => ?_⟩
 ·obtain ⟨h6, e6, l6⟩ := Pz.1 h
  obtain ⟨h5, e5, _⟩ := Pz.1 h6
  obtain ⟨h4, e4, _⟩ := Pz.1 h5
  obtain ⟨h3, e3, _⟩ := Pz.1 h4
  obtain ⟨h2, e2, _⟩ := Pz.1 h3
  obtain ⟨h1, e1, _⟩ := Pz.1 h2
  refine ⟨h1, ?_, l6⟩
  unfold rdA
  rw [e1]; simp only [Option.bind_some]
  rw [e2]; simp only [Option.bind_some]
  rw [e3]; simp only [Option.bind_some]
  rw [e4]; simp only [Option.bind_some]
  rw [e5]; simp only [Option.bind_some]
  rw [e6]; rfl
 ·unfold rdA at h
  obtain ⟨⟨a, r1, f1⟩, h1, h⟩ := Option.bind_eq_some_iff.1 h
  obtain ⟨⟨b, r2, f2⟩, h2, h⟩ := Option.bind_eq_some_iff.1 h
  obtain ⟨⟨d, r3, f3⟩, h3, h⟩ := Option.bind_eq_some_iff.1 h
  obtain ⟨⟨e, r4, f4⟩, h4, h⟩ := Option.bind_eq_some_iff.1 h
  obtain ⟨⟨g, r5, f5⟩, h5, h⟩ := Option.bind_eq_some_iff.1 h
  obtain ⟨⟨u, r6, f6⟩, h6, h⟩ := Option.map_eq_some_iff.1 h
  simp only [Prod.mk.injEq] at h
  obtain ⟨rfl, rfl, rfl⟩ := h
  obtain rfl := c _ _ _ _ h6
  obtain rfl := c _ _ _ _ h5
  obtain rfl := c _ _ _ _ h4
  obtain rfl := c _ _ _ _ h3
  obtain rfl := c _ _ _ _ h2
  obtain ⟨k1, v1, rfl⟩ := Pz.get hx h1
  obtain ⟨k2, v2, rfl⟩ := Pz.get k1 h2
  obtain ⟨k3, v3, rfl⟩ := Pz.get k2 h3
  obtain ⟨k4, v4, rfl⟩ := Pz.get k3 h4
  obtain ⟨k5, v5, rfl⟩ := Pz.get k4 h5
  obtain ⟨k6, v6, _⟩ := Pz.get k5 h6
  exact ⟨k6, by unfold afR; simp only [v1, v2, v3, v4, v5, v6]⟩
theorem rdI_of_N {f : Bool} {v r : WS} {z : Int} (h : rdN f v = some (z, r, false)) (h1 : 1 ≤ z) (h2 : z ≤ 4096) : rdI 1 4096 f v = some (z, true, r, false) := by
 cases v with
 | nil => cases h
 | cons s v =>
  unfold rdN at h
  obtain ⟨⟨z', b, r', f'⟩, h3, h4⟩ := Option.map_eq_some_iff.1 h
  cases h4
  rw [Ou] at h3
  rw [prg_full.1, prg_full.2] at h3
  split at h3
  ·rename_i h0
   cases h3
   have hE : Pd s 1 4096 = 0 := by unfold Pd; rw [if_pos h0, if_neg Zo]
   have hV : prgV s 1 4096 = piV s := by unfold prgV; rw [if_pos hE]
   rw [Ou, if_pos hE, hV]
  ·split at h3 <;> cases h3
theorem rdN_of_I {f b : Bool} {v r : WS} {z : Int} (h : rdI 1 4096 f v = some (z, b, r, false)) : rdN f v = some (z, r, false) := by
 obtain ⟨rfl, rfl, rfl, h1, h2, h3, h4⟩ := rdI_clean h
 rw [Ou] at h
 split at h
 ·rename_i h0
  have hp : piE (K7 z) = 0 := by
   unfold Pd at h0
   split at h0
   ·assumption
   ·rename_i h1; exact absurd h0 h1
  have hv : prgV (K7 z) 1 4096 = piV (K7 z) := by unfold prgV; rw [if_pos h0]
  simp only [Option.some.injEq, Prod.mk.injEq, and_true] at h
  unfold rdN
  rw [Ou, prg_full.1, prg_full.2, if_pos hp, ← hv, h]; rfl
 ·split at h <;> cases h
theorem im_sim : Sim ws x (rdIm false (ws.drop x.i)) (imR ws x) := by
 obtain ⟨xi, xs, xr⟩ := x
 obtain ⟨x', hx'⟩ : ∃ x' : Q7, x' = ⟨xi, xs, false⟩ := ⟨_, rfl⟩
 obtain ⟨a, ha⟩ : ∃ a, a = Pf ws x' := ⟨_, rfl⟩
 obtain ⟨b, hb⟩ : ∃ b, b = Pf ws a.2 := ⟨_, rfl⟩
 obtain ⟨sz, hsz⟩ : ∃ sz, sz = (!b.2.rng && Pj a.1 b.1) := ⟨_, rfl⟩
 obtain ⟨x2, hx2⟩ : ∃ x2 : Q7, x2 = ⟨b.2.i, b.2.syn, xr || !sz⟩ := ⟨_, rfl⟩
 obtain ⟨y, hy⟩ : ∃ y, y = Kv ws x2 := ⟨_, rfl⟩
 have hR : imR ws ⟨xi, xs, xr⟩ = (⟨a.1, b.1, Ld ((decL y.1).getD [])⟩, ⟨y.2.i, y.2.syn || Mr sz a.1 b.1 (decL y.1), y.2.rng⟩) := by
  rw [hy, hx2, hsz, hb, ha, hx']; rfl
 have sa : Sim ws x' (rdN false (ws.drop x'.i)) a := by rw [ha]; exact num_sim
 have sb : Sim ws a.2 (rdN false (ws.drop a.2.i)) b := by rw [hb]; exact num_sim
 rw [hR]
 have hsize : Pj a.1 b.1 = true ↔ 1 ≤ a.1 ∧ a.1 ≤ 4096 ∧ 1 ≤ b.1 ∧ b.1 ≤ 4096 ∧ a.1 * b.1 ≤ 65536 := by unfold Pj; rw [decide_eq_true_iff]
 refine ⟨fun h => ?_, fun z r hx h => ?_⟩
 ·obtain ⟨h1, h2⟩ := h
  simp only [Bool.or_eq_false_iff] at h1 h2
  cases hf : ws[x2.i]? with
  | none => rw [fld_none hf] at hy; rw [hy] at h1; exact absurd h1.1 Zs
  | some s =>
   rw [fld_some hf] at hy
   rw [hy] at h1 h2 ⊢
   obtain ⟨hd, hl⟩ := drop_some hf
   rw [hx2] at h1 h2 hd hl
   simp only [Bool.or_eq_false_iff, Bool.not_eq_false'] at h1 h2
   obtain ⟨h2a, h2b⟩ := h2
   subst h2a
   rw [h2b] at hsz h1
   have hsz2 := hsz.symm
   rw [Bool.and_eq_true, Bool.not_eq_true'] at hsz2
   obtain ⟨q1, q2, q3, q4, q5⟩ := hsize.1 hsz2.2
   obtain ⟨k1, k2, _⟩ := sb.1 ⟨h1.1, hsz2.1⟩
   obtain ⟨k3, k4, _⟩ := sa.1 k1
   cases hdec : decL s with
   | none => rw [hdec] at h1; exact absurd h1.2 (by simp [Mr])
   | some bs =>
    rw [hdec] at h1
    have h3 := h1.2
    unfold Mr at h3
    simp only [Bool.or_eq_false_iff, decide_eq_false_iff_not, Bool.true_and, Decidable.not_not] at h3
    refine ⟨⟨by rw [hx'] at k3; exact k3.1, rfl⟩, ?_, by rw [hx2]; exact hl⟩
    unfold rdIm
    rw [hx'] at k4
    simp only at k4 k2 ⊢
    rw [rdI_of_N k4 q1 q2]
    simp only [Option.bind_some]
    rw [rdI_of_N k2 q3 q4]
    simp only [Option.bind_some, hd, hdec]
    rw [if_neg Zo, if_neg Zp, if_neg (by simp [h3.2])]
    rw [hx2]; rfl
 ·unfold rdIm at h
  obtain ⟨⟨z1, b1, r1, f1⟩, h1, h⟩ := Option.bind_eq_some_iff.1 h
  obtain ⟨⟨z2, b2, r2, f2⟩, h2, h⟩ := Option.bind_eq_some_iff.1 h
  simp only at h h2
  cases r2 with
  | nil => cases h
  | cons s r3 =>
   simp only at h
   cases hdec : decL s with
   | none => rw [hdec] at h; cases h
   | some bs =>
    rw [hdec] at h
    simp only at h
    split at h
    ·cases h
    ·rename_i m1
     split at h
     ·cases h
     ·rename_i m2
      split at h
      ·cases h
      ·rename_i m3
       simp only [Option.some.injEq, Prod.mk.injEq] at h
       obtain ⟨rfl, rfl, rfl⟩ := h
       obtain ⟨rfl, rfl, rfl, p1, p2, _⟩ := rdI_clean h2
       obtain ⟨rfl, _, _, p3, p4, _⟩ := rdI_clean h1
       have n1 := rdN_of_I h1
       have n2 := rdN_of_I h2
       obtain ⟨hxs, hxr⟩ := hx
       simp only at hxs hxr
       subst hxs hxr
       obtain ⟨k1, v1, e1⟩ := sa.get (by rw [hx']; exact ⟨rfl, rfl⟩) (by rw [hx']; exact n1)
       obtain ⟨k2, v2, e2⟩ := sb.get k1 (by rw [← e1]; exact n2)
       subst v1 v2
       have hs1 : Pj a.1 b.1 = true := hsize.2 ⟨p3, p4, p1, p2, Int.not_lt.1 fun hc => m2 (.inr (.inr hc))⟩
       rw [k2.2, hs1] at hsz
       have hsz' : sz = true := hsz
       subst hsz'
       have hf : ws[x2.i]? = some s := by
        rw [hx2]
        have := congrArg (fun l => l[0]?) e2
        simp only [List.getElem?_drop, List.getElem?_cons_zero, Nat.add_zero] at this
        exact this.symm
       rw [fld_some hf] at hy
       rw [hy, hx2]
       refine ⟨⟨?_, rfl⟩, ?_⟩
       ·show (b.2.syn || Mr true a.1 b.1 (decL s)) = false
        rw [k2.1, hdec]
        unfold Mr
        simp only [Bool.false_or, Bool.or_eq_false_iff, decide_eq_false_iff_not, Bool.true_and]
        exact ⟨m1, m3⟩
       ·show (⟨a.1, b.1, Ld ((decL s).getD [])⟩ : Im) = _
        rw [hdec]; rfl
end
def PanPost (w : World) (L : List Nat) (ch : List PanicEntry) (e : Ending) (w' : World) : Prop := e = .panicked ch ∧ Chg L w w'
def amPan (ch : List PanicEntry) (c : O8) : O8 := ⟨.out (.panic ch), c.k, c.st⟩
def Nq {D X : Type} (w : World) (L : List Nat) (ch : List PanicEntry) (o : Option D) (val : D → X → Value) (G : D → X → World → Prop) (e : Ending) (w' : World) : Prop :=
 match o with
 | none => PanPost w L ch e w'
 | some d => Nr w L (val d) (G d) e w'
section
variable {P : Program} {Δ : List Deferred} {W : World} {Q : Exit → Act → World → Prop} {Φ Φ' : World → Prop} {c : O8}
theorem K0.mutx {L : List Nat} {g : FuncId} {args : Array Value} {ch : List PanicEntry}
 (hs : ∀ w, Below W.heap.size W w → Φ w → Calls P g args w (PanPost w L ch)) (hL : Own1 W L Φ) (hΦ : Left L Φ (fun _ => True) Φ')
 (hf : opsFoc c = true) (hc : Ox P c = some (g, args)) (h : K0 P Δ W Q Φ' (amPan ch c)) : K0 P Δ W Q Φ c := by
 obtain ⟨foc, k, σ⟩ := c
 replace h := h.get
 refine ⟨?_⟩
 unfold Ox at hc
 split at hc
 ·rename_i g' xs hn
  split at hc
  ·rename_i vs hv
   injection hc with hc
   injection hc with h1 h2
   subst h1; subst h2
   unfold nextCall at hn
   split at hn
   ·rename_i ops o ho
    split at hn
    ·rename_i hw
     unfold Pm at ho
     simp only at ho
     split at ho
     ·rename_i ops' i l
      cases hoi : ops'[i]? with
      | none => rw [hoi] at ho; cases ho
      | some o' =>
       rw [hoi] at ho
       simp only [Option.map_some, Option.some.injEq, Prod.mk.injEq] at ho
       obtain ⟨rfl, rfl⟩ := ho
       intro hwf β a w hr
       show wpOps P ops' (post P Q k) (i :: l) a w
       rw [wpOps_cons]
       unfold wpOp
       simp only [hoi, Ma hr, hw, if_true]
       refine .inl ?_
       unfold Oper.wp
       rw [acall_ok hn hr, Qc hv]
       refine Calls.mono (hs w hr.bel hr.phi) fun e w' he => ?_
       obtain ⟨rfl, hch⟩ := he
       exact h hwf β _ w' (hr.mut hL hch (fun _ _ _ => trivial) hΦ)
     ·cases hf
     ·cases ho
    ·cases hn
   ·cases hn
  ·cases hc
 ·cases hc
theorem K0.throw (s : Sem Next) (v : Value) (hc : P7 c = some s) (hs : ∀ w, Below W.heap.size W w → Φ w → s.run P w = .halt (.panic v) w)
 (hf : opsFoc c = true) (h : K0 P Δ W Q Φ (amPan [{ v, recovered := false }] c)) : K0 P Δ W Q Φ c := by
 obtain ⟨foc, k, σ⟩ := c
 replace h := h.get
 refine ⟨?_⟩
 unfold P7 at hc
 split at hc
 ·rename_i ops o ho
  split at hc
  ·cases hc
  ·rename_i hns
   split at hc
   ·rename_i hw
    simp only [Bool.and_eq_true] at hw
    injection hc with hc
    subst hc
    unfold Pm at ho
    simp only at ho
    split at ho
    ·rename_i ops' i l
     cases hoi : ops'[i]? with
     | none => rw [hoi] at ho; cases ho
     | some o' =>
      rw [hoi] at ho
      simp only [Option.map_some, Option.some.injEq, Prod.mk.injEq] at ho
      obtain ⟨rfl, rfl⟩ := ho
      intro hwf β a w hr
      show wpOps P ops' (post P Q k) (i :: l) a w
      rw [wpOps_cons]
      unfold wpOp
      simp only [hoi, Ma hr, hw.1, if_true]
      refine .inl ?_
      have hrho : ∀ x ∈ o'.op.operands, a.eval x = σ.rho x := fun x hx => by
       rw [hr.eval, AV.conc_isV]; · rfl
       exact List.all_eq_true.1 hw.2 x (by simpa using hx)
      unfold Oper.wp
      rw [execOp_congr o' hns hrho, hs w hr.bel hr.phi]
      exact h hwf β _ w hr
    ·cases hf
    ·cases ho
   ·cases hc
 ·cases hc
theorem post_pan {ch : List PanicEntry} {a : Act} {w : World} : ∀ k : List FrK, Q (.panic ch) a w → post P Q k (.panic ch) a w
 | [], h => h
 | .seq c :: k, h => post_pan k h
 | .blk id :: k, h => post_pan k h
 | .lp bd :: k, h => post_pan k h
theorem K0.pan {fn : Func} {R : Ending → World → Prop} {ch : List PanicEntry} (h : ∀ w, Below W.heap.size W w → Φ w → R (.panicked ch) w) : K0 P [] W (bodyPost P fn R) Φ (amPan ch c) :=
 ⟨fun hwf β a w hr => post_pan c.k ⟨hr.defers, h w hr.bel hr.phi⟩⟩
end
theorem K8.stay {w u : World} {B g : Nat} {cs : List Value} (h : K8 w g cs) (hg : B ≤ g) (hs : ∀ b, B ≤ b → b < w.heap.size → u.heap[b]? = w.heap[b]?) : K8 u g cs := by
 obtain ⟨t, h⟩ := h
 exact ⟨t, (hs g hg (Array.getElem?_eq_some_iff.1 h).1).trans h⟩
theorem K8.one {w : World} {g : Nat} {v : Value} (h : K8 w g [v]) : w.cell? ⟨g, 0, none⟩ = some v := by
 obtain ⟨t, h⟩ := h
 exact cell_one h
theorem K8.lt {w : World} {g : Nat} {cs : List Value} (h : K8 w g cs) : g < w.heap.size := by
 obtain ⟨t, h⟩ := h
 exact (Array.getElem?_eq_some_iff.1 h).1
theorem K8.own {w : World} {g : Nat} {cs : List Value} (h : K8 w g cs) : ∃ xs ty own, w.heap[g]? = some (.cells xs ty own) := by
 obtain ⟨t, h⟩ := h
 exact ⟨_, _, _, h⟩
theorem K8.to {w u : World} {g : Nat} {cs : List Value} (h : K8 w g cs) (e : u.heap[g]? = w.heap[g]?) : K8 u g cs := by
 obtain ⟨t, h⟩ := h
 exact ⟨t, e.trans h⟩
theorem K8.cell {w : World} {g j : Nat} {cs : List Value} (h : K8 w g cs) : w.cell? ⟨g, j, none⟩ = cs[j]? := by
 obtain ⟨t, h⟩ := h
 simp only [World.cell?, h, Option.isSome_none, Bool.false_eq_true, if_false]
 simp
theorem cell_to {w u : World} {p : Addr} {v : Value} (h : w.cell? p = some v) (e : u.heap[p.block]? = w.heap[p.block]?) : u.cell? p = some v := by
 unfold World.cell? at h ⊢
 rw [e]; exact h
theorem list_set_seg {α : Type} : ∀ (l : List α) (j : Nat) (v : α), j < l.length → l.take j ++ [v] ++ l.drop (j + 1) = l.set j v
 | [], j, v, h => absurd h (Nat.not_lt_zero _)
 | a :: l, 0, v, _ => by simp
 | a :: l, j + 1, v, h => by
  have ih := list_set_seg l j v (by simpa using h)
  simp only [List.take_succ_cons, List.drop_succ_cons, List.set_cons_succ, List.cons_append] at ih ⊢
  rw [ih]
theorem K8.store1 {P : Program} {t : TypeId} {w : World} {g j : Nat} {cs : List Value} {v : Value} (h : K8 w g cs) (hn : Of P t = some 1) (hl : v.cells.toList = [v]) (hj : j < cs.length) (h1 : v.oneCell' = true) :
 ∃ w', (stS t ⟨g, j, none⟩ v).run P w = .ok .skip w' ∧ Chg [g] w w' ∧ ∀ w'', w'.heap.size ≤ w''.heap.size → (∀ b ∈ [g], w''.heap[b]? = w'.heap[b]?) → K8 w'' g (cs.set j v) := by
 obtain ⟨ty, h⟩ := h
 have hst := run_storeCells_at P g j ty v.cells.toList 0 cs.toArray w h (by rw [hl]; simp; omega) (by intro u hu; rw [hl] at hu; rw [List.mem_singleton.1 hu]; exact h1)
 have hsz : v.cells.size = 1 := by have := congrArg List.length hl; simpa using this
 have hnew : ((cs.toArray.toList.take (j + 0) ++ v.cells.toList ++ cs.toArray.toList.drop (j + 0 + v.cells.toList.length)).toArray) = (cs.set j v).toArray := by
  rw [hl]
  have := list_set_seg cs j v hj
  simp only [List.length_cons, List.length_nil, Nat.add_zero, Nat.zero_add]
  rw [← this]
 rw [hnew] at hst
 refine ⟨w.setRow g (cs.set j v).toArray, ?_, ⟨rfl, rfl, rfl, by rw [Qa]; exact Nat.le_refl _, fun k _ hk => Pa _ _ _ _ (by simpa using hk)⟩, fun w'' k1 k2 => ⟨ty, ?_⟩⟩
 ·simp only [stS, Instr.storeAt, Instr.sureAddr, storeVar, Sem.run_bind, Sem.run_pure, Result.andThen_ok, Ls hn]
  rw [if_neg (by simpa using hsz)]
  simp only [hst, Sem.run_pure, Sem.run_bind, Result.andThen_ok]
 ·rw [k2 g Zs]
  simp only [World.setRow, Array.getElem?_modify, if_true, h, Option.map_some]
theorem L6.left {w wa : World} {A : Option Addr} {n : Nat} {ws : List (List UInt8)} {L : List Nat} (h : L6 wa A n ws) (e2 : ∀ b, b ∉ L → wa.heap[b]? = w.heap[b]?) (hd : ∀ b ∈ bl A, b ∉ L) : L6 w A n ws :=
 ⟨h.1, fun k s hk => by
  obtain ⟨ad, h1, h2⟩ := h.2 k s hk
  exact ⟨ad, h1, cell_to h2 (e2 _ (hd _ (by rw [h1, show (ad.add k).block = ad.block from by unfold Addr.add; split <;> rfl]; simp [bl]))).symm⟩⟩
theorem cell_lt {w : World} {p : Addr} {v : Value} (h : w.cell? p = some v) : p.block < w.heap.size := by
 unfold World.cell? at h
 cases hb : w.heap[p.block]? with
 | none => simp [hb] at h
 | some o => exact (Array.getElem?_eq_some_iff.1 hb).1
def Kw : Value := .iface 110 (.agg #[])
def pch : List PanicEntry := [{ v := Kw, recovered := false }]
theorem run_fromH {P : Program} {t e : TypeId} {A : Option Addr} {n c i : Nat} {w : World} (ht : P.underlying t = some (.slice e)) (he : P.elem t = e) (hs : Of P e = some 1) (hi : i ≤ n) : (fromA t (.slice A n c) i).run P w = .ok (.value (.slice (if c = i then A else A.map (·.add i)) (n - i) (c - i))) w := by
 have h1 := run_slice_l (P := P) w t A n c (by rw [he]; exact ht) .i64 i Zo Zo
 have h2 := run_sliceAt_slice (P := P) w t (.slice A n c) (some (.int .i64 i)) none none (by rw [he]; exact ht)
 simp only [fromA, Sem.run_bind, h2, h1, he, Ls hs, Result.andThen_ok, Sem.run_pure]
 simp [sliced]
def stepA (k : Nat) (A : Option Addr) (c : Nat) : Option Addr := A.map (·.add (if k = c then k - 1 else k))
@[reducible] def rsl (A : Option Addr) (n c r : Nat) : Value := .slice (stepA (n - r) A c) r (c - (n - r))
theorem stepA_succ {k c : Nat} {A : Option Addr} (h : k < c) : (if c - k = 1 then stepA k A c else (stepA k A c).map (·.add 1)) = stepA (k + 1) A c := by
 unfold stepA
 rw [show (if k = c then k - 1 else k) = k from if_neg Zo]
 by_cases h1 : c - k = 1
 ·rw [if_pos h1, if_pos Zo]; rfl
 ·rw [if_neg h1, if_neg Zo]
  cases A with
  | none => rfl
  | some a => show some ((a.add k).add 1) = some (a.add (k + 1)); rw [Addr.add_add]
def P4 (W w : World) (g : Nat) (cs : List Value) (u : World) : Prop := w.heap.size ≤ u.heap.size ∧ (∀ b, W.heap.size ≤ b → b < w.heap.size → b ≠ g → u.heap[b]? = w.heap[b]?) ∧ K8 u g cs
section
variable {w W : World} {g n c m cx : Nat} {A Ax : Option Addr} {f : Bool} {s : List UInt8} {ws rest : WS}
theorem Ka {cs cs' : List Value} (lg : W.heap.size ≤ g) : ∀ u, P4 W w g cs u → ∀ b ∈ [g], W.heap.size ≤ b ∧ ∃ xs ty own, u.heap[b]? = some (.cells xs ty own) := fun u h b hb => by
 obtain rfl : b = g := by simpa using hb
 exact ⟨lg, h.2.2.own⟩
theorem Km {cs cs' : List Value} (wa u : World) (e1 : wa.heap.size = u.heap.size) (e2 : ∀ b, b ∉ [g] → wa.heap[b]? = u.heap[b]?) (h : P4 W w g cs wa) (hG : K8 u g cs') : P4 W w g cs' u :=
 ⟨by rw [← e1]; exact h.1, fun b h1 h2 h3 => (e2 b (by simpa using h3)).symm.trans (h.2.1 b h1 h2 h3), hG⟩
theorem but_start {cs : List Value} (lg : W.heap.size ≤ g) (hb : K8 w g cs) (u : World) (h : w.heap.size ≤ u.heap.size ∧ ∀ b, W.heap.size ≤ b → b < w.heap.size → u.heap[b]? = w.heap[b]?) : P4 W w g cs u :=
 ⟨h.1, fun b h1 h2 _ => h.2 b h1 h2, hb.stay lg h.2⟩
theorem Mx {cs : List Value} {val : Value} {w1 : World} (hW : Below W.heap.size W w) (hw : Below W.heap.size W w1) (h : P4 W w g cs w1) : Nr w [g] (fun _ : Unit => val) (fun _ u => K8 u g cs) (.returned val) w1 :=
 ⟨(), rfl, ⟨hw.os.trans hW.os.symm, hw.tape.trans hW.tape.symm, hw.output.trans hW.output.symm, h.1, fun k hk hkl => by
  rcases Nat.lt_or_ge k W.heap.size with h4 | h4
  ·rw [hw.block k h4, hW.block k h4]
  ·exact h.2.1 k h4 hk fun e => hkl (by simp [e])⟩, fun w'' k1 k2 => h.2.2.to (k2 g (.inl Zs))⟩
theorem Nn {cs : List Value} {ch : List PanicEntry} {w1 : World} (hW : Below W.heap.size W w) (hw : Below W.heap.size W w1) (h : P4 W w g cs w1) : PanPost w [g] ch (.panicked ch) w1 :=
 ⟨rfl, ⟨hw.os.trans hW.os.symm, hw.tape.trans hW.tape.symm, hw.output.trans hW.output.symm, h.1, fun k hk hkl => by
  rcases Nat.lt_or_ge k W.heap.size with h4 | h4
  ·rw [hw.block k h4, hW.block k h4]
  ·exact h.2.1 k h4 hk fun e => hkl (by simp [e])⟩⟩
theorem but_cell {cs : List Value} {p : Addr} {v : Value} {u : World} (hW : Below W.heap.size W w) (hu : Below W.heap.size W u) (h : P4 W w g cs u) (hc : w.cell? p = some v) (hp : p.block ≠ g) : u.cell? p = some v := cell_to hc (by
 have hblt := cell_lt hc
 rcases Nat.lt_or_ge p.block W.heap.size with h1 | h1
 ·rw [hu.block _ h1, hW.block _ h1]
 ·exact h.2.1 _ h1 hblt hp)
theorem next_p (hW : Below W.heap.size W w) (lg : W.heap.size ≤ g) (hb : K8 w g [.slice Ax 0 cx, .bool f]) : Calls Tryz.prog 138 #[.pointer (some ⟨g, 0, none⟩)] w (PanPost w [g] pch) := by
 refine K0.enterW Tryz.func138 rfl hW ?_
 refine ZR ?_
 refine ZA (Ln 64 ⟨g, 0, none⟩) (.slice Ax 0 cx) (fun w1 hw h => K9 Zk (by rw [(hb.stay lg h.2).cell]; rfl)) ?_
 refine ZI true ?_
 refine K0.throw (Instr.panic Kw >>= fun v => pure (.value v)) Kw Zk (fun w1 hw h => by simp [Instr.panic, Kw, Go.goPanic]) Zk ?_
 exact K0.pan fun w1 hw h => Nn hW hw (but_start lg hb w1 h)
theorem next_s (hW : Below W.heap.size W w) (lg : W.heap.size ≤ g) (hb : K8 w g [.slice Ax (m + 1) cx, .bool f]) (hc : ∃ ad, Ax = some ad ∧ ad.block ≠ g ∧ w.cell? (ad.add 0) = some (K4 s)) : Calls Tryz.prog 138 #[.pointer (some ⟨g, 0, none⟩)] w (Nr w [g] (fun _ : Unit => K4 s) fun _ u => K8 u g [.slice (if cx = 1 then Ax else Ax.map (·.add 1)) m (cx - 1), .bool f]) := by
 obtain ⟨ad, hA, hne, hcell⟩ := hc
 refine K0.enterW Tryz.func138 rfl hW ?_
 refine ZR ?_
 refine ZA (Ln 64 ⟨g, 0, none⟩) (.slice Ax (m + 1) cx) (fun w1 hw h => K9 Zk (by rw [(hb.stay lg h.2).cell]; rfl)) ?_
 refine ZJ ((((m + 1 : Nat) : Int) == 0)) false Zp ?_
 refine ZA (Ln 64 ⟨g, 0, none⟩) (.slice Ax (m + 1) cx) (fun w1 hw h => K9 Zk (by rw [(hb.stay lg h.2).cell]; rfl)) ?_
 refine ZA (Kx 64 (.slice Ax (m + 1) cx) 0) (.pointer (some (ad.add 0))) (fun w1 hw h => by rw [hA]; exact Kh (k := 0) (elem := 9) Zk Zk Zo) ?_
 refine ZA (Ln 9 (ad.add 0)) (K4 s) (fun w1 hw h => K9 Zk (but_cell hW hw (but_start lg hb w1 h) hcell (by rw [show (ad.add 0).block = ad.block from by unfold Addr.add; split <;> rfl]; exact hne))) ?_
 refine K0.ask (Ln 64 ⟨g, 0, none⟩) (.slice Ax (m + 1) cx) Zk (fun w1 hw h => K9 Zk (by rw [(hb.stay lg h.2).cell]; rfl)) ?_
 refine ZS 5 ?_
 refine ZA (fromA 64 (.slice Ax (m + 1) cx) 1) (.slice (if cx = 1 then Ax else Ax.map (·.add 1)) m (cx - 1)) (fun w1 hw h => run_fromH (i := 1) (e := 9) Zk Zk Zk Zo) ?_
 refine K0.mutSt (L := [g]) (G := fun u => K8 u g [.slice (if cx = 1 then Ax else Ax.map (·.add 1)) m (cx - 1), .bool f]) (Φ' := P4 W w g [.slice (if cx = 1 then Ax else Ax.map (·.add 1)) m (cx - 1), .bool f]) (stS 64 ⟨g, 0, none⟩ (.slice (if cx = 1 then Ax else Ax.map (·.add 1)) m (cx - 1))) (fun w1 hw h => (hb.stay lg h.2).store1 (j := 0) Zk rfl Zs rfl) (fun u h => Ka (cs' := []) lg u (but_start lg hb u h)) (fun wa u e1 e2 h hG => Km wa u e1 e2 (but_start lg hb wa h) hG) Zk Zk ?_
 refine ZR ?_
 refine ZV (K4 s) (fun w1 hw h => Mx hW hw (h w1 (Nat.le_refl _) fun _ _ _ => rfl))
end
section
variable {P : Program} {Δ : List Deferred} {W w : World} {Q : Exit → Act → World → Prop} {Φ Φ' : World → Prop}
theorem Pw.imp {β : Nat → Nat} {σ : AS} {a : Act} (hr : Pw Δ W β σ Φ a w) (h : ∀ w, Φ w → Φ' w) : Pw Δ W β σ Φ' a w :=
 ⟨hr.tmps, hr.defers, hr.bel, hr.box, hr.inj, fun w' hw => h w' (hr.keep w' hw)⟩
theorem K0.impC {fn : Func} {args : Array Value} (h : ∀ w, Φ w → Φ' w) (H : K0 P Δ W Q Φ' (R0 fn args)) : K0 P Δ W Q Φ (R0 fn args) :=
 ⟨fun hwf β a w hr => H.get hwf β a w (hr.imp h)⟩
theorem K0.enterB {f : FuncId} {fn : Func} {args : Array Value} {R : Ending → World → Prop} {g : Nat} {cs : List Value} (hf : P.funcs[f]? = some fn) (hb : fn.body.isSome = true) (hW : Below W.heap.size W w) (lg : W.heap.size ≤ g) (hx : K8 w g cs)
 (h : K0 P [] W (bodyPost P fn R) (P4 W w g cs) (R0 fn args)) : Calls P f args w R :=
 K0.enterW hf hb hW (K0.impC (but_start lg hx) h)
end
def Md (W w : World) (g : Nat) (u : World) : Prop := w.heap.size ≤ u.heap.size ∧ ∀ b, W.heap.size ≤ b → b < w.heap.size → b ≠ g → u.heap[b]? = w.heap[b]?
@[reducible] def Lw (A : Option Addr) (n c r : Nat) (f : Bool) : List Value := [rsl A n c r, .bool f]
structure RE (W w : World) (g : Nat) (A : Option Addr) (n c : Nat) (ws0 : WS) : Prop where
 hW : Below W.heap.size W w
 lg : W.heap.size ≤ g
 str : L6 w A n ws0
 ne : ∀ ad, 0 < n → A = some ad → ad.block ≠ g
 hn : n ≤ c
 hn2 : n ≤ 1000000
 len : ∀ y ∈ ws0, y.length ≤ 10000
def Suf (ws0 : WS) (n : Nat) (rest : WS) : Prop := rest = ws0.drop (n - rest.length) ∧ rest.length ≤ n
section
variable {w W : World} {g n c m : Nat} {A : Option Addr} {f : Bool} {s : List UInt8} {ws0 rest r : WS}
theorem Od (ad : Addr) (k : Nat) : (ad.add k).block = ad.block := by unfold Addr.add; split <;> rfl
theorem Mq {cs : List Value} (wa u : World) (e1 : wa.heap.size = u.heap.size) (e2 : ∀ b, b ∉ [g] → wa.heap[b]? = u.heap[b]?) (h : P4 W w g cs wa) : Md W w g u :=
 ⟨by rw [← e1]; exact h.1, fun b h1 h2 h3 => (e2 b (by simpa using h3)).symm.trans (h.2.1 b h1 h2 h3)⟩
theorem Mm {ch : List PanicEntry} {w1 : World} (hW : Below W.heap.size W w) (hw : Below W.heap.size W w1) (h : Md W w g w1) : PanPost w [g] ch (.panicked ch) w1 :=
 ⟨rfl, ⟨hw.os.trans hW.os.symm, hw.tape.trans hW.tape.symm, hw.output.trans hW.output.symm, h.1, fun k hk hkl => by
  rcases Nat.lt_or_ge k W.heap.size with h4 | h4
  ·rw [hw.block k h4, hW.block k h4]
  ·exact h.2 k h4 hk fun e => hkl (by simp [e])⟩⟩
theorem Suf.tail (h : Suf ws0 n (s :: r)) : Suf ws0 n r := by
 obtain ⟨h1, h2⟩ := h
 rw [List.length_cons] at h1 h2
 refine ⟨?_, by omega⟩
 have h3 := congrArg List.tail h1
 rw [List.tail_cons, List.tail_drop] at h3
 rw [show n - r.length = n - (r.length + 1) + 1 by omega]
 exact h3
theorem Suf.get (h : Suf ws0 n (s :: r)) : ws0[n - (r.length + 1)]? = some s := by
 have h1 := congrArg (fun l => l[0]?) h.1
 simp only [List.getElem?_cons_zero, List.getElem?_drop, List.length_cons, Nat.add_zero] at h1
 exact h1.symm
theorem RE.cell {k : Nat} (hR : RE W w g A n c ws0) (h : ws0[k]? = some s) : ∃ ad, stepA k A c = some ad ∧ ad.block ≠ g ∧ w.cell? (ad.add 0) = some (K4 s) := by
 obtain ⟨ad, h1, h2⟩ := hR.str.2 k s h
 have hk := (List.getElem?_eq_some_iff.1 h).1
 have hl := hR.str.1
 have hc := hR.hn
 refine ⟨ad.add k, ?_, by rw [Od]; exact hR.ne ad Zo h1, by rw [Addr.add_add]; exact h2⟩
 unfold stepA
 rw [if_neg Zo, h1]; rfl
theorem RE.next {cs : List Value} {u : World} (hR : RE W w g A n c ws0) (hu : Below W.heap.size W u) (h : P4 W w g cs u) : RE W u g A n c ws0 :=
 ⟨hu, hR.lg, ⟨hR.str.1, fun k s hk => by
  obtain ⟨ad, h1, h2⟩ := hR.str.2 k s hk
  exact ⟨ad, h1, but_cell hR.hW hu h h2 (by rw [Od]; exact hR.ne ad (by have := (List.getElem?_eq_some_iff.1 hk).1; have := hR.str.1; omega) h1)⟩⟩, hR.ne, hR.hn, hR.hn2, hR.len⟩
theorem RE.mem (hR : RE W w g A n c ws0) (hs : Suf ws0 n (s :: r)) : s.length ≤ 10000 := hR.len s (List.mem_of_getElem? hs.get)
theorem next_e (hR : RE W w g A n c ws0) (hb : K8 w g (Lw A n c 0 f)) : Calls Tryz.prog 138 #[.pointer (some ⟨g, 0, none⟩)] w (PanPost w [g] pch) := next_p hR.hW hR.lg hb
theorem Ob (hR : RE W w g A n c ws0) (hs : Suf ws0 n (s :: r)) (hb : K8 w g (Lw A n c (r.length + 1) f)) : Calls Tryz.prog 138 #[.pointer (some ⟨g, 0, none⟩)] w (Nr w [g] (fun _ : Unit => K4 s) fun _ u => K8 u g (Lw A n c r.length f)) := by
 have hl := hs.2
 have hc := hR.hn
 rw [List.length_cons] at hl
 have h1 := next_s hR.hW hR.lg hb (hR.cell hs.get)
 have e : (Value.slice (if c - (n - (r.length + 1)) = 1 then stepA (n - (r.length + 1)) A c else (stepA (n - (r.length + 1)) A c).map (·.add 1)) r.length (c - (n - (r.length + 1)) - 1)) = rsl A n c r.length := by
  unfold rsl
  rw [stepA_succ Zo, show n - (r.length + 1) + 1 = n - r.length by omega, show c - (n - (r.length + 1)) - 1 = c - (n - r.length) by omega]
 rw [e] at h1
 exact h1
theorem parseE_vals (l : List UInt8) : Ks l = 0 ∨ Ks l = 3 ∨ Ks l = 5 ∨ Ks l = 6 := by
 unfold Ks
 split
 ·exact .inr (.inl rfl)
 ·split
  ·exact .inr (.inl rfl)
  ·split
   ·exact .inr (.inr (.inl rfl))
   ·exact .inl rfl
theorem piE_vals (l : List UInt8) : piE l = 0 ∨ piE l = 3 ∨ piE l = 5 ∨ piE l = 6 := by
 unfold piE
 split
 ·split
  ·exact .inl rfl
  ·exact .inr (.inr (.inr rfl))
 ·unfold Ke
  split
  ·split
   ·exact .inr (.inl rfl)
   ·exact .inl rfl
  ·exact parseE_vals _
theorem prg_vals (s : List UInt8) (lo hi : Int) : Pd s lo hi = 0 ∨ Pd s lo hi = 6 ∨ Pd s lo hi = 3 ∨ Pd s lo hi = 5 := by
 unfold Pd
 rcases piE_vals s with h | h | h | h
 ·rw [if_pos h]; split
  ·exact .inr (.inl rfl)
  ·exact .inl rfl
 all_goals (rw [if_neg (by rw [h]; decide), h]; simp)
theorem within_t {lo hi : Int} (hR : RE W w g A n c ws0) (hs : Suf ws0 n rest) (hb : K8 w g (Lw A n c rest.length f)) : Calls Tryz.prog 196 #[.pointer (some ⟨g, 0, none⟩), .int .i64 lo, .int .i64 hi] w
 (Nq w [g] pch (rdI lo hi f rest) (fun d (_ : Unit) => .tuple #[.int .i64 d.1, .bool d.2.1]) (fun d _ u => K8 u g (Lw A n c d.2.2.1.length d.2.2.2))) := by
 have lg := hR.lg
 cases rest with
 | nil =>
  refine K0.enterB Tryz.func196 rfl hR.hW lg hb ?_
  refine ZR ?_
  refine K0.mutx (L := [g]) (Φ' := fun u => Md W w g u) (fun w1 hw h => next_e (hR.next hw h) h.2.2) (fun u h => Ka (cs' := []) lg u h) (fun wa u e1 e2 h _ => Mq wa u e1 e2 h) Zk Zk ?_
  exact K0.pan fun w1 hw h => Mm hR.hW hw h
 | cons s r =>
  rw [Ou]
  have hsl := hR.mem hs
  rcases prg_vals s lo hi with h0 | h0 | h0 | h0
  ·rw [if_pos h0]
   refine K0.enterB Tryz.func196 rfl hR.hW lg hb ?_
   refine ZR ?_
   refine K0.mut (L := [g]) (Φ' := fun _ u => P4 W w g (Lw A n c r.length f) u) (fun w1 hw h => Ob (hR.next hw h) hs h.2.2) (fun u h => Ka (cs' := []) lg u h) (fun _ wa u e1 e2 h hG => Km wa u e1 e2 h hG) Zk Zk (fun _ => ?_)
   refine ZR ?_
   refine ZC (fun w1 hw h => xparseRange_v h0 rfl Zo) fun u => ?_
   refine ZI true ?_
   refine ZV (.tuple #[.int .i64 (prgV s lo hi), .bool true]) (fun w1 hw h => Mx hR.hW hw (h w1 (Nat.le_refl _) fun _ _ _ => rfl).1)
  ·rw [if_neg (by rw [h0]; decide), if_pos h0]
   refine K0.enterB Tryz.func196 rfl hR.hW lg hb ?_
   refine ZR ?_
   refine K0.mut (L := [g]) (Φ' := fun _ u => P4 W w g (Lw A n c r.length f) u) (fun w1 hw h => Ob (hR.next hw h) hs h.2.2) (fun u h => Ka (cs' := []) lg u h) (fun _ wa u e1 e2 h hG => Km wa u e1 e2 h hG) Zk Zk (fun _ => ?_)
   refine ZR ?_
   refine ZC (fun w1 hw h => xparseRange_v h0 rfl Zo) fun u => ?_
   refine ZI false ?_
   refine ZI true ?_
   refine K0.mutSt (L := [g]) (G := fun u => K8 u g (Lw A n c r.length true)) (Φ' := P4 W w g (Lw A n c r.length true)) (stS 4 ⟨g, 1, none⟩ (.bool true)) (fun w1 hw h => h.1.2.2.store1 (j := 1) Zk rfl Zs rfl) (fun u h => Ka (cs' := []) lg u h.1) (fun wa u e1 e2 h hG => Km wa u e1 e2 h.1 hG) Zk Zk ?_
   refine ZR ?_
   refine ZV (.tuple #[.int .i64 0, .bool false]) (fun w1 hw h => Mx hR.hW hw (h w1 (Nat.le_refl _) fun _ _ _ => rfl))
  ·rw [if_neg (by rw [h0]; decide), if_neg (by rw [h0]; decide)]
   refine K0.enterB Tryz.func196 rfl hR.hW lg hb ?_
   refine ZR ?_
   refine K0.mut (L := [g]) (Φ' := fun _ u => P4 W w g (Lw A n c r.length f) u) (fun w1 hw h => Ob (hR.next hw h) hs h.2.2) (fun u h => Ka (cs' := []) lg u h) (fun _ wa u e1 e2 h hG => Km wa u e1 e2 h hG) Zk Zk (fun _ => ?_)
   refine ZR ?_
   refine ZC (fun w1 hw h => xparseRange_v h0 rfl Zo) fun u => ?_
   refine ZI false ?_
   refine ZI false ?_
   refine K0.throw (Instr.panic Kw >>= fun v => pure (.value v)) Kw Zk (fun w1 hw h => by simp [Instr.panic, Kw, Go.goPanic]) Zk ?_
   exact K0.pan fun w1 hw h => Nn hR.hW hw h.1
  ·rw [if_neg (by rw [h0]; decide), if_neg (by rw [h0]; decide)]
   refine K0.enterB Tryz.func196 rfl hR.hW lg hb ?_
   refine ZR ?_
   refine K0.mut (L := [g]) (Φ' := fun _ u => P4 W w g (Lw A n c r.length f) u) (fun w1 hw h => Ob (hR.next hw h) hs h.2.2) (fun u h => Ka (cs' := []) lg u h) (fun _ wa u e1 e2 h hG => Km wa u e1 e2 h hG) Zk Zk (fun _ => ?_)
   refine ZR ?_
   refine ZC (fun w1 hw h => xparseRange_v h0 rfl Zo) fun u => ?_
   refine ZI false ?_
   refine ZI false ?_
   refine K0.throw (Instr.panic Kw >>= fun v => pure (.value v)) Kw Zk (fun w1 hw h => by simp [Instr.panic, Kw, Go.goPanic]) Zk ?_
   exact K0.pan fun w1 hw h => Nn hR.hW hw h.1
end
@[reducible] def P8 (c : Co) : Value := .agg #[.int .u8 (c.1.toNat : Int), .int .u8 (c.2.1.toNat : Int), .int .u8 (c.2.2.1.toNat : Int), .int .u8 (c.2.2.2.toNat : Int)]
section
variable {w W : World} {g n c m : Nat} {A : Option Addr} {f : Bool} {s l : List UInt8} {ws0 rest r : WS}
theorem rdI_suf {lo hi z : Int} {b f' : Bool} (hs : Suf ws0 n rest) (h : rdI lo hi f rest = some (z, b, r, f')) : Suf ws0 n r := by
 cases rest with
 | nil => cases h
 | cons s v =>
  rw [Ou] at h
  split at h
  ·cases h; exact hs.tail
  ·split at h
   ·cases h; exact hs.tail
   ·cases h
theorem rdN_suf {z : Int} {f' : Bool} (hs : Suf ws0 n rest) (h : rdN f rest = some (z, r, f')) : Suf ws0 n r := by
 unfold rdN at h
 obtain ⟨⟨z', b, r', f''⟩, h1, h2⟩ := Option.map_eq_some_iff.1 h
 cases h2
 exact rdI_suf hs h1
theorem rdW_suf {L : WS} {frm z : Int} {f' : Bool} (hs : Suf ws0 n rest) (h : rdW L frm f rest = some (z, r, f')) : Suf ws0 n r := by
 cases rest with
 | nil => cases h
 | cons s v =>
  unfold rdW at h
  obtain ⟨k, h1, h2⟩ := Option.map_eq_some_iff.1 h
  cases h2; exact hs.tail
theorem rdC_suf {z : Co} {f' : Bool} (hs : Suf ws0 n rest) (h : rdC f rest = some (z, r, f')) : Suf ws0 n r := by
 cases rest with
 | nil => cases h
 | cons s v =>
  unfold rdC at h
  obtain ⟨k, h1, h2⟩ := Option.map_eq_some_iff.1 h
  cases h2; exact hs.tail
theorem rdQ_suf {z : Rat} {f' : Bool} (hs : Suf ws0 n rest) (h : rdQ f rest = some (z, r, f')) : Suf ws0 n r := by
 cases rest with
 | nil => cases h
 | cons s v =>
  rw [Kr] at h
  split at h
  ·cases h; exact hs.tail
  ·cases h
theorem end_s (hW : Below W.heap.size W w) (lg : W.heap.size ≤ g) (hb : K8 w g (Lw A n c 0 f)) : Calls Tryz.prog 146 #[.pointer (some ⟨g, 0, none⟩)] w (Nr w [g] (fun _ : Unit => .tuple #[]) fun _ u => K8 u g (Lw A n c 0 f)) := by
 refine K0.enterB Tryz.func146 rfl hW lg hb ?_
 refine ZR ?_
 refine ZA (Ln 64 ⟨g, 0, none⟩) (rsl A n c 0) (fun w1 hw h => K9 Zk (by rw [h.2.2.cell]; rfl)) ?_
 refine ZI false ?_
 refine ZV (.tuple #[]) (fun w1 hw h => Mx hW hw (h w1 (Nat.le_refl _) fun _ _ _ => rfl))
theorem end_p (hW : Below W.heap.size W w) (lg : W.heap.size ≤ g) (hb : K8 w g (Lw A n c (m + 1) f)) : Calls Tryz.prog 146 #[.pointer (some ⟨g, 0, none⟩)] w (PanPost w [g] pch) := by
 refine K0.enterB Tryz.func146 rfl hW lg hb ?_
 refine ZR ?_
 refine ZA (Ln 64 ⟨g, 0, none⟩) (rsl A n c (m + 1)) (fun w1 hw h => K9 Zk (by rw [h.2.2.cell]; rfl)) ?_
 refine ZJ (decide (((m + 1 : Nat) : Int) > 0)) true Zs ?_
 refine K0.throw (Instr.panic Kw >>= fun v => pure (.value v)) Kw Zk (fun w1 hw h => by simp [Instr.panic, Kw, Go.goPanic]) Zk ?_
 exact K0.pan fun w1 hw h => Nn hW hw h
theorem Oa (hR : RE W w g A n c ws0) (hs : Suf ws0 n rest) (hb : K8 w g (Lw A n c rest.length f)) : Calls Tryz.prog 144 #[.pointer (some ⟨g, 0, none⟩)] w
 (Nq w [g] pch (rdN f rest) (fun d (_ : Unit) => .int .i64 d.1) (fun d _ u => K8 u g (Lw A n c d.2.1.length d.2.2))) := by
 have lg := hR.lg
 refine K0.enterB Tryz.func144 rfl hR.hW lg hb ?_
 unfold rdN
 cases ho : rdI mnI mxI f rest with
 | none =>
  refine ZR ?_
  refine K0.mutx (L := [g]) (Φ' := fun u => Md W w g u) (fun w1 hw h => by have t := within_t (lo := mnI) (hi := mxI) (hR.next hw h) hs h.2.2; rw [ho] at t; exact t) (fun u h => Ka (cs' := []) lg u h) (fun wa u e1 e2 h _ => Mq wa u e1 e2 h) Zk Zk ?_
  exact K0.pan fun w1 hw h => Mm hR.hW hw h
 | some d =>
  obtain ⟨z, b, r, f'⟩ := d
  refine ZR ?_
  refine K0.mut (L := [g]) (Φ' := fun _ u => P4 W w g (Lw A n c r.length f') u) (fun w1 hw h => by have t := within_t (lo := mnI) (hi := mxI) (hR.next hw h) hs h.2.2; rw [ho] at t; exact t) (fun u h => Ka (cs' := []) lg u h) (fun _ wa u e1 e2 h hG => Km wa u e1 e2 h hG) Zk Zk (fun _ => ?_)
  refine ZR ?_
  refine ZV (.int .i64 z) (fun w1 hw h => Mx hR.hW hw (h w1 (Nat.le_refl _) fun _ _ _ => rfl))
theorem point_t (hR : RE W w g A n c ws0) (hs : Suf ws0 n rest) (hb : K8 w g (Lw A n c rest.length f)) : Calls Tryz.prog 140 #[.pointer (some ⟨g, 0, none⟩)] w
 (Nq w [g] pch (rdP2 f rest) (fun d (_ : Unit) => pt d.1.1 d.1.2) (fun d _ u => K8 u g (Lw A n c d.2.1.length d.2.2))) := by
 have lg := hR.lg
 refine K0.enterB Tryz.func140 rfl hR.hW lg hb ?_
 unfold rdP2
 cases ho : rdN f rest with
 | none =>
  refine ZR ?_
  refine K0.mutx (L := [g]) (Φ' := fun u => Md W w g u) (fun w1 hw h => by have t := Oa (hR.next hw h) hs h.2.2; rw [ho] at t; exact t) (fun u h => Ka (cs' := []) lg u h) (fun wa u e1 e2 h _ => Mq wa u e1 e2 h) Zk Zk ?_
  exact K0.pan fun w1 hw h => Mm hR.hW hw h
 | some d =>
  obtain ⟨x, r, f1⟩ := d
  have hs1 := rdN_suf hs ho
  rw [Option.bind_some]
  simp only
  cases ho2 : rdN f1 r with
  | none =>
   refine ZR ?_
   refine K0.mut (L := [g]) (Φ' := fun _ u => P4 W w g (Lw A n c r.length f1) u) (fun w1 hw h => by have t := Oa (hR.next hw h) hs h.2.2; rw [ho] at t; exact t) (fun u h => Ka (cs' := []) lg u h) (fun _ wa u e1 e2 h hG => Km wa u e1 e2 h hG) Zk Zk (fun _ => ?_)
   refine ZR ?_
   refine K0.mutx (L := [g]) (Φ' := fun u => Md W w g u) (fun w1 hw h => by have t := Oa (hR.next hw h) hs1 h.2.2; rw [ho2] at t; exact t) (fun u h => Ka (cs' := []) lg u h) (fun wa u e1 e2 h _ => Mq wa u e1 e2 h) Zk Zk ?_
   exact K0.pan fun w1 hw h => Mm hR.hW hw h
  | some d =>
   obtain ⟨y, r2, f2⟩ := d
   refine ZR ?_
   refine K0.mut (L := [g]) (Φ' := fun _ u => P4 W w g (Lw A n c r.length f1) u) (fun w1 hw h => by have t := Oa (hR.next hw h) hs h.2.2; rw [ho] at t; exact t) (fun u h => Ka (cs' := []) lg u h) (fun _ wa u e1 e2 h hG => Km wa u e1 e2 h hG) Zk Zk (fun _ => ?_)
   refine ZR ?_
   refine K0.mut (L := [g]) (Φ' := fun _ u => P4 W w g (Lw A n c r2.length f2) u) (fun w1 hw h => by have t := Oa (hR.next hw h) hs1 h.2.2; rw [ho2] at t; exact t) (fun u h => Ka (cs' := []) lg u h) (fun _ wa u e1 e2 h hG => Km wa u e1 e2 h hG) Zk Zk (fun _ => ?_)
   refine ZR ?_
   refine ZV (pt x y) (fun w1 hw h => Mx hR.hW hw (h w1 (Nat.le_refl _) fun _ _ _ => rfl))
theorem colP_dec (h : l.length = 8) : Qf (35 :: l) = match decL l with
 | some [r, g, b, a] => some (r, g, b, a)
 | _ => none := by
 unfold Qf
 rw [if_pos ⟨by rw [List.length_cons, h], rfl⟩]; rfl
theorem xdecode_g {p : List UInt8} {K : Nat} (hd : decL l = some p) (hK : p.length = K) (h0 : 0 < K) (hL : l.length ≤ 20000) : Calls Tryz.prog 197 #[K4 l] w (K5 w (fun y : Nat × Nat => .tuple #[.slice (some ⟨y.1, 0, none⟩) K y.2, .int .i64 0]) fun y u => ∀ (k : Nat) (b : UInt8), p[k]? = some b → u.cell? ⟨y.1, k, none⟩ = some (.int .u8 (b.toNat : Int))) := by
 subst hK
 refine (xdecode_s hd Zo).mono fun e w' k => ?_
 obtain ⟨y, h1, h2, h3⟩ := k
 have hown : K6 w' 0 5 1 y.1 p.length y.2 (bv p) := h3 w' (Nat.le_refl _) fun _ _ _ => rfl
 obtain ⟨g, hg, _⟩ := hown.cells h0
 refine ⟨(g, y.2), by rw [h1]; show Ending.returned (.tuple #[.slice y.1 _ _, _]) = _; rw [hg], h2, fun w'' k1 k2 k b hk => ?_⟩
 have ho2 : K6 w'' 0 5 1 y.1 p.length y.2 (bv p) := h3 w'' k1 k2
 obtain ⟨g2, e2, hc⟩ := ho2.cells h0
 rw [hg] at e2
 cases e2
 exact hc k _ (by unfold bv; rw [List.getElem?_map, hk]; rfl)
theorem xcolor_n (h : Qf l = none) (hl : l.length ≤ 10000) : Calls Tryz.prog 194 #[K4 l] w (K5 w (fun _ : Unit => .tuple #[P8 Pp, .int .i64 3]) fun _ _ => True) := by
 by_cases h9 : l.length = 9
 case neg =>
  refine K0.enter Tryz.func194 rfl ?_
  refine ZS 3 ?_
  refine ZT 8 (.bool ((l.length : Int) != 9)) (.bool true) Zp ?_
  refine ZI true ?_
  exact ZW (.tuple #[P8 Pp, .int .i64 3])
 obtain ⟨b, l, rfl⟩ : ∃ b t, l = b :: t := by cases l with
  | nil => cases h9
  | cons b t => exact ⟨b, t, rfl⟩
 have h8 : l.length = 8 := by simpa using h9
 refine K0.enter Tryz.func194 rfl ?_
 refine ZS 3 ?_
 by_cases hb : b = 35
 case neg =>
  refine K0.slot 8 (.bool (((b :: l).length : Int) != 9)) (.bool false) Zk Zp ?_
  refine ZS 5 ?_
  refine K0.ask (ixS 9 (K4 (b :: l)) (0 : Nat)) (.int .u8 (b.toNat : Int)) Zk (fun w1 hw h => Lg Zk rfl) ?_
  refine ZS 7 ?_
  refine ZT 12 (.bool ((b.toNat : Int) != 35)) (.bool true) (by simp; intro e; exact hb (UInt8.toNat_inj.1 (by show b.toNat = 35; omega))) ?_
  refine ZI true ?_
  exact ZW (.tuple #[P8 Pp, .int .i64 3])
 subst hb
 have hdn : decL l = none := by
  rw [colP_dec h8] at h
  cases hd : decL l with
  | none => rfl
  | some p =>
   have hp : p.length = 4 := by have := Qw hd; have h2 := Na p; rw [this, h8] at h2; omega
   match p, hp with
   | [x, y, z, u], _ => rw [hd] at h; cases h
 refine K0.slot 8 (.bool (((35 :: l).length : Int) != 9)) (.bool false) Zk Zp ?_
 refine ZS 5 ?_
 refine ZA (ixS 9 (K4 (35 :: l)) (0 : Nat)) (.int .u8 35) (fun w1 hw h => Lg (b := 35) Zk rfl) ?_
 refine K0.cond false Zk ?_
 refine ZS 1 ?_
 refine ZA (fromA 9 (K4 (35 :: l)) ((1 : Nat) : Int)) (K4 l) (fun w1 hw h => run_fromA Zk Zs) ?_
 refine ZC (fun w1 hw h => xdecode_n hdn Zo) fun y => ?_
 refine ZI true ?_
 exact ZW (.tuple #[P8 Pp, .int .i64 3])
theorem xcolor_s {k : Co} (h : Qf l = some k) : Calls Tryz.prog 194 #[K4 l] w (K5 w (fun _ : Unit => .tuple #[P8 k, .int .i64 0]) fun _ _ => True) := by
 have hcw := colW_P h
 obtain ⟨l', rfl⟩ : ∃ t, l = 35 :: t := ⟨_, hcw.symm⟩
 have h9 : l'.length = 8 := by
  have := congrArg List.length hcw
  unfold Mp at this
  rw [List.length_cons, List.length_cons, Na] at this
  have h2 : (coB k).length = 4 := rfl
  omega
 have hd : decL l' = some (coB k) := by
  have h1 : Nz (coB k) = l' := by unfold Mp at hcw; exact List.tail_eq_of_cons_eq hcw
  rw [← h1]; exact decL_enc _
 refine K0.enter Tryz.func194 rfl ?_
 refine ZS 3 ?_
 refine K0.slot 8 (.bool (((35 :: l').length : Int) != 9)) (.bool false) Zk Zp ?_
 refine ZS 5 ?_
 refine ZA (ixS 9 (K4 (35 :: l')) (0 : Nat)) (.int .u8 35) (fun w1 hw h => Lg (b := 35) Zk rfl) ?_
 refine K0.cond false Zk ?_
 refine ZS 1 ?_
 refine ZA (fromA 9 (K4 (35 :: l')) ((1 : Nat) : Int)) (K4 l') (fun w1 hw h => run_fromA Zk Zs) ?_
 refine ZC (fun w1 hw h => xdecode_g (K := 4) hd rfl Zd Zo) fun y => ?_
 refine ZI false ?_
 refine ZB 1 (Kx 137 (.slice (some ⟨y.1, 0, none⟩) 4 y.2) (0 : Nat)) (.pointer (some ((⟨y.1, 0, none⟩ : Addr).add 0))) (fun w1 hw h => Kh (elem := 5) Zk Zk Zd) ?_
 refine ZB 2 (Ln 5 ((⟨y.1, 0, none⟩ : Addr).add 0)) (.int .u8 (k.1.toNat : Int)) (fun w1 hw h => K9 Zk (by rw [Addr.add_mid, Nat.zero_add]; exact h.2 0 _ rfl)) ?_
 refine ZB 4 (Kx 137 (.slice (some ⟨y.1, 0, none⟩) 4 y.2) (1 : Nat)) (.pointer (some ((⟨y.1, 0, none⟩ : Addr).add 1))) (fun w1 hw h => Kh (elem := 5) Zk Zk Zd) ?_
 refine ZB 5 (Ln 5 ((⟨y.1, 0, none⟩ : Addr).add 1)) (.int .u8 (k.2.1.toNat : Int)) (fun w1 hw h => K9 Zk (by rw [Addr.add_mid, Nat.zero_add]; exact h.2 1 _ rfl)) ?_
 refine ZB 7 (Kx 137 (.slice (some ⟨y.1, 0, none⟩) 4 y.2) (2 : Nat)) (.pointer (some ((⟨y.1, 0, none⟩ : Addr).add 2))) (fun w1 hw h => Kh (elem := 5) Zk Zk Zd) ?_
 refine ZB 8 (Ln 5 ((⟨y.1, 0, none⟩ : Addr).add 2)) (.int .u8 (k.2.2.1.toNat : Int)) (fun w1 hw h => K9 Zk (by rw [Addr.add_mid, Nat.zero_add]; exact h.2 2 _ rfl)) ?_
 refine ZB 10 (Kx 137 (.slice (some ⟨y.1, 0, none⟩) 4 y.2) (3 : Nat)) (.pointer (some ((⟨y.1, 0, none⟩ : Addr).add 3))) (fun w1 hw h => Kh (elem := 5) Zk Zk Zd) ?_
 refine ZB 11 (Ln 5 ((⟨y.1, 0, none⟩ : Addr).add 3)) (.int .u8 (k.2.2.2.toNat : Int)) (fun w1 hw h => K9 Zk (by rw [Addr.add_mid, Nat.zero_add]; exact h.2 3 _ rfl)) ?_
 exact ZW (.tuple #[P8 k, .int .i64 0])
end
section
variable {w W : World} {g n c m : Nat} {A : Option Addr} {f : Bool} {s l : List UInt8} {ws0 rest r : WS}
theorem colour_t (hR : RE W w g A n c ws0) (hs : Suf ws0 n rest) (hb : K8 w g (Lw A n c rest.length f)) : Calls Tryz.prog 139 #[.pointer (some ⟨g, 0, none⟩)] w
 (Nq w [g] pch (rdC f rest) (fun d (_ : Unit) => P8 d.1) (fun d _ u => K8 u g (Lw A n c d.2.1.length d.2.2))) := by
 have lg := hR.lg
 cases rest with
 | nil =>
  refine K0.enterB Tryz.func139 rfl hR.hW lg hb ?_
  refine ZR ?_
  refine K0.mutx (L := [g]) (Φ' := fun u => Md W w g u) (fun w1 hw h => next_e (hR.next hw h) h.2.2) (fun u h => Ka (cs' := []) lg u h) (fun wa u e1 e2 h _ => Mq wa u e1 e2 h) Zk Zk ?_
  exact K0.pan fun w1 hw h => Mm hR.hW hw h
 | cons s r =>
  have hsl := hR.mem hs
  have hrd : rdC f (s :: r) = (Qf s).map fun c => (c, r, f) := rfl
  rw [hrd]
  cases hc : Qf s with
  | none =>
   refine K0.enterB Tryz.func139 rfl hR.hW lg hb ?_
   refine ZR ?_
   refine K0.mut (L := [g]) (Φ' := fun _ u => P4 W w g (Lw A n c r.length f) u) (fun w1 hw h => Ob (hR.next hw h) hs h.2.2) (fun u h => Ka (cs' := []) lg u h) (fun _ wa u e1 e2 h hG => Km wa u e1 e2 h hG) Zk Zk (fun _ => ?_)
   refine ZR ?_
   refine ZC (fun w1 hw h => xcolor_n hc hsl) fun u => ?_
   refine ZI true ?_
   refine K0.throw (Instr.panic Kw >>= fun v => pure (.value v)) Kw Zk (fun w1 hw h => by simp [Instr.panic, Kw, Go.goPanic]) Zk ?_
   exact K0.pan fun w1 hw h => Nn hR.hW hw h.1
  | some k =>
   refine K0.enterB Tryz.func139 rfl hR.hW lg hb ?_
   refine ZR ?_
   refine K0.mut (L := [g]) (Φ' := fun _ u => P4 W w g (Lw A n c r.length f) u) (fun w1 hw h => Ob (hR.next hw h) hs h.2.2) (fun u h => Ka (cs' := []) lg u h) (fun _ wa u e1 e2 h hG => Km wa u e1 e2 h hG) Zk Zk (fun _ => ?_)
   refine ZR ?_
   refine ZC (fun w1 hw h => xcolor_s hc) fun u => ?_
   refine ZI false ?_
   refine ZV (P8 k) (fun w1 hw h => Mx hR.hW hw (h w1 (Nat.le_refl _) fun _ _ _ => rfl).1)
def ruleN : WS := [[110, 111, 110, 122, 101, 114, 111], [101, 118, 101, 110, 111, 100, 100]]
theorem Lv {g : Nat} {L : WS} {cells : Array Value} {n : Nat} (h : L8 9 cells g w) (he : cells.toList = sv L) (hn : L.length = n := by rfl) : L6 w (some ⟨g, 0, none⟩) n L := by
 refine ⟨hn, fun k s hk => ⟨⟨g, 0, none⟩, rfl, ?_⟩⟩
 unfold L8 at h
 rw [Addr.add_mid, Nat.zero_add]
 simp only [World.cell?, h, Option.isSome_none, Bool.false_eq_true, if_false]
 rw [← Array.getElem?_toList, he]
 unfold sv
 rw [List.getElem?_map, hk]; rfl
theorem names_spread : Calls Tryz.prog 114 #[.string ⟨#[115, 112, 114, 101, 97, 100]⟩] w (K5 w (fun y : Nat => .tuple #[.slice (some ⟨y, 0, none⟩) 4 4, .int .i64 0]) fun y u => L6 u (some ⟨y, 0, none⟩) 4 Kq) := by
 refine K0.enter Tryz.func114 rfl ?_
 refine ZR ?_
 refine ZI true ?_
 refine K0.make (Li (64) 4 #[(0, K4 [110, 111, 110, 101]), (1, K4 [112, 97, 100]), (2, K4 [114, 101, 112, 101, 97, 116]), (3, K4 [114, 101, 102, 108, 101, 99, 116])]) (Ki 4) (L8 9 #[K4 [110, 111, 110, 101], K4 [112, 97, 100], K4 [114, 101, 112, 101, 97, 116], K4 [114, 101, 102, 108, 101, 99, 116]]) Zk (fun w1 hw h => Kb Zk) (fun y => ?_)
 refine ZR ?_
 refine ZV (.tuple #[.slice (some ⟨y, 0, none⟩) 4 4, .int .i64 0]) (fun w1 hw h => ⟨y, rfl, hw, fun w'' k1 k2 => Lv (h w'' k1 k2).2 rfl⟩)
theorem names_look : Calls Tryz.prog 114 #[.string ⟨#[108, 111, 111, 107]⟩] w (K5 w (fun y : Nat => .tuple #[.slice (some ⟨y, 0, none⟩) 2 2, .int .i64 1]) fun y u => L6 u (some ⟨y, 0, none⟩) 2 Mf) := by
 refine K0.enter Tryz.func114 rfl ?_
 refine ZR ?_
 refine ZI false ?_
 refine ZI true ?_
 refine K0.make (Li (64) 2 #[(0, K4 [110, 101, 97, 114, 101, 115, 116]), (1, K4 [98, 105, 108, 105, 110, 101, 97, 114])]) (Ki 2) (L8 9 #[K4 [110, 101, 97, 114, 101, 115, 116], K4 [98, 105, 108, 105, 110, 101, 97, 114]]) Zk (fun w1 hw h => Kb Zk) (fun y => ?_)
 refine ZR ?_
 refine ZV (.tuple #[.slice (some ⟨y, 0, none⟩) 2 2, .int .i64 1]) (fun w1 hw h => ⟨y, rfl, hw, fun w'' k1 k2 => Lv (h w'' k1 k2).2 rfl⟩)
theorem names_rule : Calls Tryz.prog 114 #[.string ⟨#[114, 117, 108, 101]⟩] w (K5 w (fun y : Nat => .tuple #[.slice (some ⟨y, 0, none⟩) 2 2, .int .i64 1]) fun y u => L6 u (some ⟨y, 0, none⟩) 2 ruleN) := by
 refine K0.enter Tryz.func114 rfl ?_
 refine ZR ?_
 refine ZI false ?_
 refine ZI false ?_
 refine ZI true ?_
 refine K0.make (Li (64) 2 #[(0, K4 [110, 111, 110, 122, 101, 114, 111]), (1, K4 [101, 118, 101, 110, 111, 100, 100])]) (Ki 2) (L8 9 #[K4 [110, 111, 110, 122, 101, 114, 111], K4 [101, 118, 101, 110, 111, 100, 100]]) Zk (fun w1 hw h => Kb Zk) (fun y => ?_)
 refine ZR ?_
 refine ZV (.tuple #[.slice (some ⟨y, 0, none⟩) 2 2, .int .i64 1]) (fun w1 hw h => ⟨y, rfl, hw, fun w'' k1 k2 => Lv (h w'' k1 k2).2 rfl⟩)
end
section
variable {w W : World} {g n c m : Nat} {A : Option Addr} {f : Bool} {s l : List UInt8} {ws0 rest r : WS}
theorem str_ne {y k : Nat} {v v2 : Value} {L : WS} (hb : K8 w g [.slice A n c, v2]) (h : L6 w (some ⟨y, 0, none⟩) k (s :: L)) : ∀ b ∈ bl (some (⟨y, 0, none⟩ : Addr)), b ∉ [g] := fun b hb2 hm => by
 simp only [bl, List.mem_singleton] at hb2 hm
 have e : y = g := hb2.symm.trans hm
 obtain ⟨ad, h1, h2⟩ := h.2 0 s rfl
 cases h1
 have h3 : w.cell? ⟨g, 0, none⟩ = some (.slice A n c) := by rw [hb.cell]; rfl
 rw [Addr.add_mid, e, h3] at h2
 cases h2
theorem Q9 (hR : RE W w g A n c ws0) (hs : Suf ws0 n rest) (hb : K8 w g (Lw A n c rest.length f)) : Calls Tryz.prog 141 #[.pointer (some ⟨g, 0, none⟩), .string ⟨#[115, 112, 114, 101, 97, 100]⟩] w
 (Nq w [g] pch (rdW Kq 0 f rest) (fun d (_ : Unit) => .int .i64 d.1) (fun d _ u => K8 u g (Lw A n c d.2.1.length d.2.2))) := by
 have lg := hR.lg
 refine K0.enterB Tryz.func141 rfl hR.hW lg hb ?_
 refine ZR ?_
 refine ZC (fun w1 hw h => names_spread) fun y => ?_
 cases rest with
 | nil =>
  refine K0.mutx (L := [g]) (Φ' := fun u => Md W w g u) (fun w1 hw h => next_e (hR.next hw h.1) h.1.2.2) (fun u h => Ka (cs' := []) lg u h.1) (fun wa u e1 e2 h _ => Mq wa u e1 e2 h.1) Zk Zk ?_
  exact K0.pan fun w1 hw h => Mm hR.hW hw h
 | cons s r =>
  have hsl := hR.mem hs
  refine K0.mut (L := [g]) (Φ' := fun _ u => P4 W w g (Lw A n c r.length f) u ∧ L6 u (some ⟨y, 0, none⟩) 4 Kq) (fun w1 hw h => Ob (hR.next hw h.1) hs h.1.2.2) (fun u h => Ka (cs' := []) lg u h.1) (fun _ wa u e1 e2 h hG => ⟨Km wa u e1 e2 h.1 hG, h.2.left e2 (str_ne (v := .bool f) h.1.2.2 h.2)⟩) Zk Zk (fun _ => ?_)
  refine ZR ?_
  have hrd : rdW Kq 0 f (s :: r) = (idxW s Kq).map fun (k : Nat) => ((0 : Int) + (k : Int), r, f) := rfl
  rw [hrd]
  refine K0.un Zk ?_
  refine ZR ?_
  refine K0.cond true Zk ?_
  refine ZS 1 ?_
  refine ZA (Kx 64 (.slice (some ⟨y, 0, none⟩) 4 4) (0 : Nat)) (.pointer (some ((⟨y, 0, none⟩ : Addr).add 0))) (fun w1 hw h => Kh (elem := 9) Zk Zk Zd) ?_
  refine K0.ask (Ln 9 ((⟨y, 0, none⟩ : Addr).add 0)) (K4 [110, 111, 110, 101]) Zk (fun w1 hw h => K9 Zk (by obtain ⟨ad, q1, q2⟩ := h.2.2 0 [110, 111, 110, 101] rfl; cases q1; exact q2)) ?_
  refine ZS 2 ?_
  by_cases h0 : s = [110, 111, 110, 101]
  ·subst h0
   refine ZA (Ov .eql 9 (.tmp 24) (.tmp 25) (K4 [110, 111, 110, 101]) (K4 [110, 111, 110, 101])) (.bool true) (fun w1 hw h => L3 Zs) ?_
   refine ZI true ?_
   have he : idxW [110, 111, 110, 101] Kq = some 0 := by decide
   rw [he]
   refine ZV (.int .i64 0) (fun w1 hw h => Mx hR.hW hw (h w1 (Nat.le_refl _) fun _ _ _ => rfl).1)
  refine ZA (Ov .eql 9 (.tmp 24) (.tmp 25) (K4 [110, 111, 110, 101]) (K4 s)) (.bool false) (fun w1 hw h => L3 (by simpa using Ne.symm h0)) ?_
  refine ZI false ?_
  refine K0.cond true Zk ?_
  refine ZS 1 ?_
  refine ZA (Kx 64 (.slice (some ⟨y, 0, none⟩) 4 4) (1 : Nat)) (.pointer (some ((⟨y, 0, none⟩ : Addr).add 1))) (fun w1 hw h => Kh (elem := 9) Zk Zk Zd) ?_
  refine K0.ask (Ln 9 ((⟨y, 0, none⟩ : Addr).add 1)) (K4 [112, 97, 100]) Zk (fun w1 hw h => K9 Zk (by obtain ⟨ad, q1, q2⟩ := h.2.2 1 [112, 97, 100] rfl; cases q1; exact q2)) ?_
  refine ZS 2 ?_
  by_cases h1 : s = [112, 97, 100]
  ·subst h1
   refine ZA (Ov .eql 9 (.tmp 24) (.tmp 25) (K4 [112, 97, 100]) (K4 [112, 97, 100])) (.bool true) (fun w1 hw h => L3 Zs) ?_
   refine ZI true ?_
   have he : idxW [112, 97, 100] Kq = some 1 := by decide
   rw [he]
   refine ZV (.int .i64 1) (fun w1 hw h => Mx hR.hW hw (h w1 (Nat.le_refl _) fun _ _ _ => rfl).1)
  refine ZA (Ov .eql 9 (.tmp 24) (.tmp 25) (K4 [112, 97, 100]) (K4 s)) (.bool false) (fun w1 hw h => L3 (by simpa using Ne.symm h1)) ?_
  refine ZI false ?_
  refine K0.cond true Zk ?_
  refine ZS 1 ?_
  refine ZA (Kx 64 (.slice (some ⟨y, 0, none⟩) 4 4) (2 : Nat)) (.pointer (some ((⟨y, 0, none⟩ : Addr).add 2))) (fun w1 hw h => Kh (elem := 9) Zk Zk Zd) ?_
  refine K0.ask (Ln 9 ((⟨y, 0, none⟩ : Addr).add 2)) (K4 [114, 101, 112, 101, 97, 116]) Zk (fun w1 hw h => K9 Zk (by obtain ⟨ad, q1, q2⟩ := h.2.2 2 [114, 101, 112, 101, 97, 116] rfl; cases q1; exact q2)) ?_
  refine ZS 2 ?_
  by_cases h2 : s = [114, 101, 112, 101, 97, 116]
  ·subst h2
   refine ZA (Ov .eql 9 (.tmp 24) (.tmp 25) (K4 [114, 101, 112, 101, 97, 116]) (K4 [114, 101, 112, 101, 97, 116])) (.bool true) (fun w1 hw h => L3 Zs) ?_
   refine ZI true ?_
   have he : idxW [114, 101, 112, 101, 97, 116] Kq = some 2 := by decide
   rw [he]
   refine ZV (.int .i64 2) (fun w1 hw h => Mx hR.hW hw (h w1 (Nat.le_refl _) fun _ _ _ => rfl).1)
  refine ZA (Ov .eql 9 (.tmp 24) (.tmp 25) (K4 [114, 101, 112, 101, 97, 116]) (K4 s)) (.bool false) (fun w1 hw h => L3 (by simpa using Ne.symm h2)) ?_
  refine ZI false ?_
  refine K0.cond true Zk ?_
  refine ZS 1 ?_
  refine ZA (Kx 64 (.slice (some ⟨y, 0, none⟩) 4 4) (3 : Nat)) (.pointer (some ((⟨y, 0, none⟩ : Addr).add 3))) (fun w1 hw h => Kh (elem := 9) Zk Zk Zd) ?_
  refine K0.ask (Ln 9 ((⟨y, 0, none⟩ : Addr).add 3)) (K4 [114, 101, 102, 108, 101, 99, 116]) Zk (fun w1 hw h => K9 Zk (by obtain ⟨ad, q1, q2⟩ := h.2.2 3 [114, 101, 102, 108, 101, 99, 116] rfl; cases q1; exact q2)) ?_
  refine ZS 2 ?_
  by_cases h3 : s = [114, 101, 102, 108, 101, 99, 116]
  ·subst h3
   refine ZA (Ov .eql 9 (.tmp 24) (.tmp 25) (K4 [114, 101, 102, 108, 101, 99, 116]) (K4 [114, 101, 102, 108, 101, 99, 116])) (.bool true) (fun w1 hw h => L3 Zs) ?_
   refine ZI true ?_
   have he : idxW [114, 101, 102, 108, 101, 99, 116] Kq = some 3 := by decide
   rw [he]
   refine ZV (.int .i64 3) (fun w1 hw h => Mx hR.hW hw (h w1 (Nat.le_refl _) fun _ _ _ => rfl).1)
  refine ZA (Ov .eql 9 (.tmp 24) (.tmp 25) (K4 [114, 101, 102, 108, 101, 99, 116]) (K4 s)) (.bool false) (fun w1 hw h => L3 (by simpa using Ne.symm h3)) ?_
  refine ZI false ?_
  refine ZI false ?_
  have he : idxW s Kq = none := by
   unfold Kq
   rw [Nh, if_neg (Ne.symm h0), Nh, if_neg (Ne.symm h1), Nh, if_neg (Ne.symm h2), Nh, if_neg (Ne.symm h3)]; rfl
  rw [he]
  refine K0.throw (Instr.panic Kw >>= fun v => pure (.value v)) Kw Zk (fun w1 hw h => by simp [Instr.panic, Kw, Go.goPanic]) Zk ?_
  exact K0.pan fun w1 hw h => Nn hR.hW hw h.1
theorem word_look (hR : RE W w g A n c ws0) (hs : Suf ws0 n rest) (hb : K8 w g (Lw A n c rest.length f)) : Calls Tryz.prog 141 #[.pointer (some ⟨g, 0, none⟩), .string ⟨#[108, 111, 111, 107]⟩] w
 (Nq w [g] pch (rdW Mf 1 f rest) (fun d (_ : Unit) => .int .i64 d.1) (fun d _ u => K8 u g (Lw A n c d.2.1.length d.2.2))) := by
 have lg := hR.lg
 refine K0.enterB Tryz.func141 rfl hR.hW lg hb ?_
 refine ZR ?_
 refine ZC (fun w1 hw h => names_look) fun y => ?_
 cases rest with
 | nil =>
  refine K0.mutx (L := [g]) (Φ' := fun u => Md W w g u) (fun w1 hw h => next_e (hR.next hw h.1) h.1.2.2) (fun u h => Ka (cs' := []) lg u h.1) (fun wa u e1 e2 h _ => Mq wa u e1 e2 h.1) Zk Zk ?_
  exact K0.pan fun w1 hw h => Mm hR.hW hw h
 | cons s r =>
  have hsl := hR.mem hs
  refine K0.mut (L := [g]) (Φ' := fun _ u => P4 W w g (Lw A n c r.length f) u ∧ L6 u (some ⟨y, 0, none⟩) 2 Mf) (fun w1 hw h => Ob (hR.next hw h.1) hs h.1.2.2) (fun u h => Ka (cs' := []) lg u h.1) (fun _ wa u e1 e2 h hG => ⟨Km wa u e1 e2 h.1 hG, h.2.left e2 (str_ne (v := .bool f) h.1.2.2 h.2)⟩) Zk Zk (fun _ => ?_)
  refine ZR ?_
  have hrd : rdW Mf 1 f (s :: r) = (idxW s Mf).map fun (k : Nat) => ((1 : Int) + (k : Int), r, f) := rfl
  rw [hrd]
  refine K0.un Zk ?_
  refine ZR ?_
  refine K0.cond true Zk ?_
  refine ZS 1 ?_
  refine ZA (Kx 64 (.slice (some ⟨y, 0, none⟩) 2 2) (0 : Nat)) (.pointer (some ((⟨y, 0, none⟩ : Addr).add 0))) (fun w1 hw h => Kh (elem := 9) Zk Zk Zd) ?_
  refine K0.ask (Ln 9 ((⟨y, 0, none⟩ : Addr).add 0)) (K4 [110, 101, 97, 114, 101, 115, 116]) Zk (fun w1 hw h => K9 Zk (by obtain ⟨ad, q1, q2⟩ := h.2.2 0 [110, 101, 97, 114, 101, 115, 116] rfl; cases q1; exact q2)) ?_
  refine ZS 2 ?_
  by_cases h0 : s = [110, 101, 97, 114, 101, 115, 116]
  ·subst h0
   refine ZA (Ov .eql 9 (.tmp 24) (.tmp 25) (K4 [110, 101, 97, 114, 101, 115, 116]) (K4 [110, 101, 97, 114, 101, 115, 116])) (.bool true) (fun w1 hw h => L3 Zs) ?_
   refine ZI true ?_
   have he : idxW [110, 101, 97, 114, 101, 115, 116] Mf = some 0 := by decide
   rw [he]
   refine ZV (.int .i64 1) (fun w1 hw h => Mx hR.hW hw (h w1 (Nat.le_refl _) fun _ _ _ => rfl).1)
  refine ZA (Ov .eql 9 (.tmp 24) (.tmp 25) (K4 [110, 101, 97, 114, 101, 115, 116]) (K4 s)) (.bool false) (fun w1 hw h => L3 (by simpa using Ne.symm h0)) ?_
  refine ZI false ?_
  refine K0.cond true Zk ?_
  refine ZS 1 ?_
  refine ZA (Kx 64 (.slice (some ⟨y, 0, none⟩) 2 2) (1 : Nat)) (.pointer (some ((⟨y, 0, none⟩ : Addr).add 1))) (fun w1 hw h => Kh (elem := 9) Zk Zk Zd) ?_
  refine K0.ask (Ln 9 ((⟨y, 0, none⟩ : Addr).add 1)) (K4 [98, 105, 108, 105, 110, 101, 97, 114]) Zk (fun w1 hw h => K9 Zk (by obtain ⟨ad, q1, q2⟩ := h.2.2 1 [98, 105, 108, 105, 110, 101, 97, 114] rfl; cases q1; exact q2)) ?_
  refine ZS 2 ?_
  by_cases h1 : s = [98, 105, 108, 105, 110, 101, 97, 114]
  ·subst h1
   refine ZA (Ov .eql 9 (.tmp 24) (.tmp 25) (K4 [98, 105, 108, 105, 110, 101, 97, 114]) (K4 [98, 105, 108, 105, 110, 101, 97, 114])) (.bool true) (fun w1 hw h => L3 Zs) ?_
   refine ZI true ?_
   have he : idxW [98, 105, 108, 105, 110, 101, 97, 114] Mf = some 1 := by decide
   rw [he]
   refine ZV (.int .i64 2) (fun w1 hw h => Mx hR.hW hw (h w1 (Nat.le_refl _) fun _ _ _ => rfl).1)
  refine ZA (Ov .eql 9 (.tmp 24) (.tmp 25) (K4 [98, 105, 108, 105, 110, 101, 97, 114]) (K4 s)) (.bool false) (fun w1 hw h => L3 (by simpa using Ne.symm h1)) ?_
  refine ZI false ?_
  refine ZI false ?_
  have he : idxW s Mf = none := by
   unfold Mf
   rw [Nh, if_neg (Ne.symm h0), Nh, if_neg (Ne.symm h1)]; rfl
  rw [he]
  refine K0.throw (Instr.panic Kw >>= fun v => pure (.value v)) Kw Zk (fun w1 hw h => by simp [Instr.panic, Kw, Go.goPanic]) Zk ?_
  exact K0.pan fun w1 hw h => Nn hR.hW hw h.1
theorem word_rule (hR : RE W w g A n c ws0) (hs : Suf ws0 n rest) (hb : K8 w g (Lw A n c rest.length f)) : Calls Tryz.prog 141 #[.pointer (some ⟨g, 0, none⟩), .string ⟨#[114, 117, 108, 101]⟩] w
 (Nq w [g] pch (rdW ruleN 1 f rest) (fun d (_ : Unit) => .int .i64 d.1) (fun d _ u => K8 u g (Lw A n c d.2.1.length d.2.2))) := by
 have lg := hR.lg
 refine K0.enterB Tryz.func141 rfl hR.hW lg hb ?_
 refine ZR ?_
 refine ZC (fun w1 hw h => names_rule) fun y => ?_
 cases rest with
 | nil =>
  refine K0.mutx (L := [g]) (Φ' := fun u => Md W w g u) (fun w1 hw h => next_e (hR.next hw h.1) h.1.2.2) (fun u h => Ka (cs' := []) lg u h.1) (fun wa u e1 e2 h _ => Mq wa u e1 e2 h.1) Zk Zk ?_
  exact K0.pan fun w1 hw h => Mm hR.hW hw h
 | cons s r =>
  have hsl := hR.mem hs
  refine K0.mut (L := [g]) (Φ' := fun _ u => P4 W w g (Lw A n c r.length f) u ∧ L6 u (some ⟨y, 0, none⟩) 2 ruleN) (fun w1 hw h => Ob (hR.next hw h.1) hs h.1.2.2) (fun u h => Ka (cs' := []) lg u h.1) (fun _ wa u e1 e2 h hG => ⟨Km wa u e1 e2 h.1 hG, h.2.left e2 (str_ne (v := .bool f) h.1.2.2 h.2)⟩) Zk Zk (fun _ => ?_)
  refine ZR ?_
  have hrd : rdW ruleN 1 f (s :: r) = (idxW s ruleN).map fun (k : Nat) => ((1 : Int) + (k : Int), r, f) := rfl
  rw [hrd]
  refine K0.un Zk ?_
  refine ZR ?_
  refine K0.cond true Zk ?_
  refine ZS 1 ?_
  refine ZA (Kx 64 (.slice (some ⟨y, 0, none⟩) 2 2) (0 : Nat)) (.pointer (some ((⟨y, 0, none⟩ : Addr).add 0))) (fun w1 hw h => Kh (elem := 9) Zk Zk Zd) ?_
  refine K0.ask (Ln 9 ((⟨y, 0, none⟩ : Addr).add 0)) (K4 [110, 111, 110, 122, 101, 114, 111]) Zk (fun w1 hw h => K9 Zk (by obtain ⟨ad, q1, q2⟩ := h.2.2 0 [110, 111, 110, 122, 101, 114, 111] rfl; cases q1; exact q2)) ?_
  refine ZS 2 ?_
  by_cases h0 : s = [110, 111, 110, 122, 101, 114, 111]
  ·subst h0
   refine ZA (Ov .eql 9 (.tmp 24) (.tmp 25) (K4 [110, 111, 110, 122, 101, 114, 111]) (K4 [110, 111, 110, 122, 101, 114, 111])) (.bool true) (fun w1 hw h => L3 Zs) ?_
   refine ZI true ?_
   have he : idxW [110, 111, 110, 122, 101, 114, 111] ruleN = some 0 := by decide
   rw [he]
   refine ZV (.int .i64 1) (fun w1 hw h => Mx hR.hW hw (h w1 (Nat.le_refl _) fun _ _ _ => rfl).1)
  refine ZA (Ov .eql 9 (.tmp 24) (.tmp 25) (K4 [110, 111, 110, 122, 101, 114, 111]) (K4 s)) (.bool false) (fun w1 hw h => L3 (by simpa using Ne.symm h0)) ?_
  refine ZI false ?_
  refine K0.cond true Zk ?_
  refine ZS 1 ?_
  refine ZA (Kx 64 (.slice (some ⟨y, 0, none⟩) 2 2) (1 : Nat)) (.pointer (some ((⟨y, 0, none⟩ : Addr).add 1))) (fun w1 hw h => Kh (elem := 9) Zk Zk Zd) ?_
  refine K0.ask (Ln 9 ((⟨y, 0, none⟩ : Addr).add 1)) (K4 [101, 118, 101, 110, 111, 100, 100]) Zk (fun w1 hw h => K9 Zk (by obtain ⟨ad, q1, q2⟩ := h.2.2 1 [101, 118, 101, 110, 111, 100, 100] rfl; cases q1; exact q2)) ?_
  refine ZS 2 ?_
  by_cases h1 : s = [101, 118, 101, 110, 111, 100, 100]
  ·subst h1
   refine ZA (Ov .eql 9 (.tmp 24) (.tmp 25) (K4 [101, 118, 101, 110, 111, 100, 100]) (K4 [101, 118, 101, 110, 111, 100, 100])) (.bool true) (fun w1 hw h => L3 Zs) ?_
   refine ZI true ?_
   have he : idxW [101, 118, 101, 110, 111, 100, 100] ruleN = some 1 := by decide
   rw [he]
   refine ZV (.int .i64 2) (fun w1 hw h => Mx hR.hW hw (h w1 (Nat.le_refl _) fun _ _ _ => rfl).1)
  refine ZA (Ov .eql 9 (.tmp 24) (.tmp 25) (K4 [101, 118, 101, 110, 111, 100, 100]) (K4 s)) (.bool false) (fun w1 hw h => L3 (by simpa using Ne.symm h1)) ?_
  refine ZI false ?_
  refine ZI false ?_
  have he : idxW s ruleN = none := by
   unfold ruleN
   rw [Nh, if_neg (Ne.symm h0), Nh, if_neg (Ne.symm h1)]; rfl
  rw [he]
  refine K0.throw (Instr.panic Kw >>= fun v => pure (.value v)) Kw Zk (fun w1 hw h => by simp [Instr.panic, Kw, Go.goPanic]) Zk ?_
  exact K0.pan fun w1 hw h => Nn hR.hW hw h.1
end
end Go.Proofs.YtncodmhgfkailaaGreatDoor
