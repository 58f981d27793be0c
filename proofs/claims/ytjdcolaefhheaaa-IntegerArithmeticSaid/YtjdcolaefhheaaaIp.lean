/-
  Integers: Format, Parse, and the reference's.
-/
import Derived.Test.YtjdcolaefhheaaaJt
import Derived.Test.YtjdcolaefhheaaaRf
import Derived.Test.YtjdcolaefhheaaaRg
import Derived.Lib.IndexBytes
namespace Go.Proofs.Ytjdcolaefhheaaa
set_option linter.unusedVariables false
set_option linter.unusedSimpArgs false
open Go.RowKit
attribute [local go_sem ↓] Go.wp_at_zero Go.wp_at_succ

def fmtI (x : Int) : List UInt8 := if x < 0 then 45 :: decS x.natAbs else decS x.natAbs
theorem fmtI_neg {x : Int} (h : x < 0) : fmtI x = 45 :: decS x.natAbs := if_pos h
theorem fmtI_pos {x : Int} (h : ¬ x < 0) : fmtI x = decS x.natAbs := if_neg h
theorem sgn_neg {x : Int} (h : x < 0) : sgn x = -1 := if_pos h
theorem sgn_pos {x : Int} (h : ¬ x < 0) : ¬ sgn x < 0 := by unfold sgn; rw [if_neg h]; split <;> omega

set_option maxRecDepth 100000 in
set_option maxHeartbeats 2000000 in
theorem iformat_c {Aa : Option Addr} {na ca : Nat} {la : List Nat} {sa : Bool} {xa : Int} {Ka : Nat} (w : World) (ia : II w sa Aa na ca la xa Ka) (hK : Ka ≤ 1073741824) :
    Calls Try.prog 61 #[.agg #[.bool sa, .slice Aa na ca]] w (RetV w (strOf (fmtI xa))) := by
  have hna := ia.le
  have ex := ia.abs
  have EX := hide ex
  clear ex
  go_enter Try.func61, Try.ntmps61
  go_wp2_with fail
  obtain ⟨w0, hw0⟩ : ∃ w0, w0 = (w.alloc (.cells #[.bool sa, .slice Aa na ca] 24)) := ⟨_, rfl⟩
  have kw00 : Blk w0 (w.heap.size) 24 #[.bool sa, .slice Aa na ca] := by rw [hw0]; exact allocs_blk [(#[.bool sa, .slice Aa na ca], 24)] w 0 _ _ rfl
  have fr : Fr w [] w0 := (⟨by rw [hw0]; exact allocs_below [(#[.bool sa, .slice Aa na ca], 24)] w, fun _ h => by cases h⟩ : Fr w [] w0)
  have sw0 : w0.heap.size = w.heap.size + 1 := by rw [hw0]; exact allocs_size [(#[.bool sa, .slice Aa na ca], 24)] w
  rw [← hw0]
  clear hw0
  have a0 := kw00.cell 0
  have a1 := kw00.cell 1
  clear kw00
  refine (isign_v _ (fr.ii ia) (by omega)).mono ?_
  rintro e w1 ⟨rfl, hw⟩
  replace fr := fr.below hw
  replace a0 := keepc hw a0
  replace a1 := keepc hw a1
  clear hw
  by_cases h : xa < 0
  · rw [sgn_neg h]
    have F := hide (fmtI_neg h)
    clear h
    go_wp2_with fail
    refine (format_c _ (fr.ii ia).inn (by omega)).mono ?_
    rintro e w2 ⟨rfl, hw⟩
    replace fr := fr.below hw
    have hlen : (decS (val la)).length ≤ 10 * Ka + 10 := by
      have h := decS_len (k := Ka + 1) (by omega) (Nat.lt_of_lt_of_le (val_lt_of ia.inn.dig (Nat.le_of_eq ia.inn.len)) (pw_le (by omega)))
      omega
    have hsz : (ByteArray.mk (decS (val la)).toArray).size ≤ 10737418250 := by
      show (decS (val la)).toArray.size ≤ _
      rw [List.size_toArray]; omega
    unfold strOf
    go_wp2_with fail
    go_ret
    refine ⟨?_, fr.bel⟩
    rw [unhide F, unhide EX]
    show Ending.returned (Value.string (⟨[45].toArray⟩ ++ ⟨(decS (val la)).toArray⟩)) = _
    rw [ByteArray.mk_append_mk]
    rfl
  · have hs := sgn_pos h
    have F := hide (fmtI_pos h)
    obtain ⟨z, hz⟩ : ∃ z, z = sgn xa := ⟨_, rfl⟩
    rw [← hz] at hs
    rw [← hz]
    clear h hz
    go_wp2_with fail
    refine (format_c _ (fr.ii ia).inn (by omega)).mono ?_
    rintro e w2 ⟨rfl, hw⟩
    replace fr := fr.below hw
    go_wp2_with fail
    go_ret
    exact ⟨by rw [unhide F, unhide EX]; rfl, fr.bel⟩

set_option maxRecDepth 100000 in
set_option maxHeartbeats 2000000 in
theorem rformat_c {Aa : Option Addr} {na ca : Nat} {la : List Nat} {sa : Bool} {xa : Int} {Ka : Nat} (w : World) (ia : II w sa Aa na ca la xa Ka) (hK : Ka ≤ 1073741824) :
    Calls Try.prog 62 #[.agg #[.bool sa, .slice Aa na ca]] w (RetV w (strOf (fmtI xa))) := by
  have hna := ia.le
  have ex := ia.abs
  have EX := hide ex
  clear ex
  have hlen : (decS (val la)).length ≤ 10 * Ka + 10 := by
    have h := decS_len (k := Ka + 1) (by omega) (Nat.lt_of_lt_of_le (val_lt_of ia.inn.dig (Nat.le_of_eq ia.inn.len)) (pw_le (by omega)))
    omega
  have hsz : (ByteArray.mk (decS (val la)).toArray).size ≤ 10737418250 := by
    show (decS (val la)).toArray.size ≤ _
    rw [List.size_toArray]; omega
  go_enter Try.func62, Try.ntmps62
  go_wp2_with fail
  obtain ⟨w0, hw0⟩ : ∃ w0, w0 = (w.alloc (.cells #[.bool sa, .slice Aa na ca] 24)) := ⟨_, rfl⟩
  have kw00 : Blk w0 (w.heap.size) 24 #[.bool sa, .slice Aa na ca] := by rw [hw0]; exact allocs_blk [(#[.bool sa, .slice Aa na ca], 24)] w 0 _ _ rfl
  have fr : Fr w [] w0 := (⟨by rw [hw0]; exact allocs_below [(#[.bool sa, .slice Aa na ca], 24)] w, fun _ h => by cases h⟩ : Fr w [] w0)
  have sw0 : w0.heap.size = w.heap.size + 1 := by rw [hw0]; exact allocs_size [(#[.bool sa, .slice Aa na ca], 24)] w
  rw [← hw0]
  clear hw0
  have a0 := kw00.cell 0
  have a1 := kw00.cell 1
  clear kw00
  refine (refFormat_c _ (fr.ii ia).inn (by omega)).mono ?_
  rintro e w1 ⟨rfl, hw⟩
  replace fr := fr.below hw
  replace a0 := keepc hw a0
  replace a1 := keepc hw a1
  clear hw
  unfold strOf
  go_wp2_with fail
  refine (rsign_v _ (fr.ii ia) (by omega)).mono ?_
  rintro e w2 ⟨rfl, hw⟩
  replace fr := fr.below hw
  clear hw
  by_cases h : xa < 0
  · rw [sgn_neg h]
    have F := hide (fmtI_neg h)
    clear h
    go_wp2_with fail
    go_ret
    refine ⟨?_, fr.bel⟩
    rw [unhide F, unhide EX]
    show Ending.returned (Value.string (⟨[45].toArray⟩ ++ ⟨(decS (val la)).toArray⟩)) = _
    rw [ByteArray.mk_append_mk]
    rfl
  · have hs := sgn_pos h
    have F := hide (fmtI_pos h)
    obtain ⟨z, hz⟩ : ∃ z, z = sgn xa := ⟨_, rfl⟩
    rw [← hz] at hs
    rw [← hz]
    clear h hz
    go_wp2_with fail
    go_ret
    exact ⟨by rw [unhide F, unhide EX]; rfl, fr.bel⟩

def pneg (l : List UInt8) : Bool := Lib.hasPrefix l [45]
def prest (l : List UInt8) : List UInt8 := Lib.trimPrefix l [45]
def parseIE (l : List UInt8) : Int := if parseE (prest l) = 0 then (if pneg l = true ∧ parseV (prest l) = 0 then 3 else 0) else parseE (prest l)
def parseIV (l : List UInt8) : Int := if parseIE l = 0 then zi (pneg l) (parseV (prest l)) else 0
theorem parseI_bad {l : List UInt8} (h : parseE (prest l) ≠ 0) : parseIE l = parseE (prest l) ∧ parseIV l = 0 := by
  have h1 : parseIE l = parseE (prest l) := if_neg h
  exact ⟨h1, by rw [parseIV, if_neg (by rw [h1]; exact h)]⟩
theorem parseI_zero {l : List UInt8} (h : parseE (prest l) = 0) (h2 : pneg l = true) (h3 : parseV (prest l) = 0) : parseIE l = 3 ∧ parseIV l = 0 := by
  have h1 : parseIE l = 3 := by rw [parseIE, if_pos h, if_pos ⟨h2, h3⟩]
  exact ⟨h1, by rw [parseIV, if_neg (by rw [h1]; omega)]⟩
theorem parseI_good {l : List UInt8} (h : parseE (prest l) = 0) (h2 : ¬ (pneg l = true ∧ parseV (prest l) = 0)) : parseIE l = 0 ∧ parseIV l = zi (pneg l) (parseV (prest l)) := by
  have h1 : parseIE l = 0 := by rw [parseIE, if_pos h, if_neg h2]
  exact ⟨h1, by rw [parseIV, if_pos h1]⟩
theorem parseV_lt (l : List UInt8) : parseV l < pw 125 := by
  by_cases h : parseE l = 0
  · obtain ⟨_, h2, h3, _⟩ := decS_parse h
    rw [parseV, if_pos h]
    exact rdv_pw h2 (by omega)
  · rw [parseV, if_neg h]; exact pw_pos _
def ParsePostI (w : World) (l : List UInt8) (e : Ending) (w' : World) : Prop :=
  ∃ A n c d, e = .returned (.tuple #[.agg #[.bool (decide (parseIV l < 0)), .slice A n c], .int .i64 (parseIE l)]) ∧ Norm d ∧ Own w' w.heap.size A n c d ∧ II w' (decide (parseIV l < 0)) A n c d (parseIV l) 125 ∧ Below w.heap.size w w'
theorem ParsePostI.zero {w w' : World} {l : List UInt8} {e : Ending} {E : Int} (h : parseIE l = E ∧ parseIV l = 0) (he : e = .returned (.tuple #[.agg #[.bool false, .slice none 0 0], .int .i64 E])) (hb : Below w.heap.size w w') : ParsePostI w l e w' :=
  ⟨none, 0, 0, [], by rw [he, h.1, h.2]; rfl, Norm.nil, Own.nil_, by rw [h.2]; exact ⟨In.nil_, rfl, Nat.zero_le _⟩, hb⟩
theorem len_zero {w : World} {A : Option Addr} {n c : Nat} {l : List Nat} (N : Norm l) (i : In w A n c l) : ((n : Int) == 0) = decide (val l = 0) := by
  by_cases h : val l = 0
  · rw [decide_eq_true h, ← i.len, N.zero h]; rfl
  · rw [decide_eq_false h]
    have : n ≠ 0 := by
      intro e
      have h1 := i.len
      rw [e] at h1
      rw [List.length_eq_zero_iff.1 h1] at h
      exact h rfl
    simp; omega

set_option maxRecDepth 100000 in
set_option maxHeartbeats 2000000 in
theorem iparse_c (s : ByteArray) (hs : s.size ≤ 9223372036854775807) (w : World) :
    Calls Try.prog 59 #[.string s] w (ParsePostI w s.data.toList) := by
  obtain ⟨l, hl⟩ : ∃ l, l = s.data.toList := ⟨_, rfl⟩
  rw [← hl]
  have hr : (prest l).length ≤ 9223372036854775807 := by
    have h1 : l.length = s.size := by rw [hl]; rfl
    unfold prest Lib.trimPrefix
    split
    · rw [List.length_drop]; omega
    · omega
  have HL := hide hl
  clear hl
  go_enter Try.func59, Try.ntmps59
  go_wp2_with fail
  obtain ⟨w0, hw0⟩ : ∃ w0, w0 = (w.alloc (.cells #[.bool false, .slice none 0 0] 24)) := ⟨_, rfl⟩
  have kw00 : Blk w0 (w.heap.size) 24 #[.bool false, .slice none 0 0] := by rw [hw0]; exact allocs_blk [(#[.bool false, .slice none 0 0], 24)] w 0 _ _ rfl
  have fr : Fr w [(w.heap.size, 2)] w0 := Fr.cons ((⟨by rw [hw0]; exact allocs_below [(#[.bool false, .slice none 0 0], 24)] w, fun _ h => by cases h⟩ : Fr w [] w0)) (g := w.heap.size) (k := 2) (by omega) (.of_blk kw00 rfl)
  have sw0 : w0.heap.size = w.heap.size + 1 := by rw [hw0]; exact allocs_size [(#[.bool false, .slice none 0 0], 24)] w
  rw [← hw0]
  clear hw0
  clear kw00
  refine (Try.strings_CutPrefix s _ _).mono ?_
  rintro e w' ⟨rfl, rfl⟩
  rw [← unhide HL]
  rw [show Lib.trimPrefix l (ByteArray.mk #[45]).data.toList = prest l from rfl, show Lib.hasPrefix l (ByteArray.mk #[45]).data.toList = pneg l from rfl]
  obtain ⟨r, hre⟩ : ∃ r, r = prest l := ⟨_, rfl⟩
  obtain ⟨σ, hσ⟩ : ∃ σ, σ = pneg l := ⟨_, rfl⟩
  rw [← hre, ← hσ]
  rw [← hre] at hr
  have HR := hide (And.intro hre hσ)
  clear hre hσ
  have hsz : (ByteArray.mk r.toArray).size ≤ 9223372036854775807 := by
    show r.toArray.size ≤ _
    rw [List.size_toArray]; exact hr
  go_wp2_with fail
  refine (parse_c ⟨r.toArray⟩ hsz _).mono ?_
  rintro e w1 ⟨A1, n1, c1, d1, rfl, N1, v1, O1, hw⟩
  rw [show (ByteArray.mk r.toArray).data.toList = r by simp] at v1 ⊢
  replace fr := fr.below hw
  have z1 := hw.size
  have i1 := O1.toIn
  have hlz := len_zero N1 i1
  have hlI := i1.lenI
  rw [v1] at hlz
  have V1 := hide v1
  clear hw v1 O1
  obtain ⟨⟨_, k0, f0⟩, ⟨_, k1, f1⟩⟩ := fr.two (g := w.heap.size) (by simp)
  by_cases he : parseE r = 0
  · have hpn := Nat.lt_of_le_of_lt (Nat.le_refl (val d1)) (by rw [unhide V1]; exact parseV_lt r)
    have b1 : n1 ≤ 125 := by
      have h := N1.length_le hpn
      rwa [i1.len] at h
    by_cases hz : σ = true ∧ parseV r = 0
    · have P := hide (parseI_zero (l := l) (by rw [← (unhide HR).1]; exact he) (by rw [← (unhide HR).2]; exact hz.1) (by rw [← (unhide HR).1]; exact hz.2))
      obtain ⟨rfl, hz2⟩ := hz
      rw [decide_eq_true hz2] at hlz
      rw [he]
      clear he hz2 hpn
      go_wp2_with fail
      refine bodyPost_ret (v := .tuple #[.agg #[.bool false, .slice none 0 0], .int .i64 3]) (by simp [results, Try.results59, go_sem, k0, k1, f0, f1]) rfl ?_
      exact .zero (unhide P) rfl ((fr.set (by simp) _).set (by simp) _).bel
    · have P := hide (parseI_good (l := l) (by rw [← (unhide HR).1]; exact he) (by rw [← (unhide HR).1, ← (unhide HR).2]; exact hz))
      have hcase : σ = false ∨ (σ = true ∧ decide (parseV r = 0) = false) := by
        cases σ
        · exact .inl rfl
        · exact .inr ⟨rfl, decide_eq_false fun h => hz ⟨rfl, h⟩⟩
      rw [he]
      clear he hz hpn
      rcases hcase with rfl | ⟨rfl, hd⟩
      case' inl => clear hlz
      case' inr => rw [hd] at hlz; clear hd
      all_goals
        go_wp2_with fail
        refine (inew_v (K := 125) _ ⟨i1, rfl, b1⟩ (Nat.le_refl _) (by omega)).mono ?_
        rintro e w2 ⟨A2, n2, c2, l2, rfl, N2, O2, i2, hw⟩
        replace fr := fr.below hw
        have e2 := unhide V1
        rw [(unhide HR).1] at e2
        obtain ⟨p1, p2⟩ := unhide P
        rw [← (unhide HR).2, ← e2] at p2
        obtain ⟨X, hX⟩ : ∃ X, X = zi _ (val d1) := ⟨_, p2⟩
        rw [← p2] at i2 ⊢
        have PP := hide (And.intro p1 p2)
        clear p1 p2 e2 hw k0 k1 f0 f1 hX
        obtain ⟨⟨_, k0, f0⟩, ⟨_, k1, f1⟩⟩ := fr.two (g := w.heap.size) (by simp)
        go_wp2_with fail
        refine bodyPost_ret (v := .tuple #[.agg #[.bool (decide (parseIV l < 0)), .slice A2 n2 c2], .int .i64 0]) (by simp [results, Try.results59, go_sem, k0, k1, f0, f1]) rfl ?_
        have h0 : w.heap.size < w1.heap.size := by omega
        exact ⟨A2, n2, c2, l2, by rw [(unhide PP).1], N2, (O2.set2 h0).base (by omega), ⟨(O2.set2 h0).toIn, i2.zi, i2.le⟩, ((fr.set (by simp) _).set (by simp) _).bel⟩
  · have P := hide (parseI_bad (l := l) (by rw [← (unhide HR).1]; exact he))
    rw [← (unhide HR).1] at P
    obtain ⟨E, hE⟩ : ∃ E, E = parseE r := ⟨_, rfl⟩
    rw [← hE] at he P
    rw [← hE]
    have he' : (E != 0) = true := by simpa using he
    clear he hE
    go_wp2_with fail
    refine bodyPost_ret (v := .tuple #[.agg #[.bool false, .slice none 0 0], .int .i64 E]) (by simp [results, Try.results59, go_sem, k0, k1, f0, f1]) rfl ?_
    exact .zero (unhide P) rfl ((fr.set (by simp) _).set (by simp) _).bel

theorem pneg_nil : pneg [] = false ∧ prest [] = [] := ⟨rfl, rfl⟩
theorem pneg_cons_yes (t : List UInt8) : pneg (45 :: t) = true ∧ prest (45 :: t) = t := by
  have h : pneg (45 :: t) = true := by simp [pneg, Lib.hasPrefix, List.isPrefixOf]
  exact ⟨h, by rw [prest, Lib.trimPrefix, if_pos (show Lib.hasPrefix (45 :: t) [45] = true from h)]; rfl⟩
theorem pneg_cons_no {b : UInt8} {t : List UInt8} (hb : b ≠ 45) : pneg (b :: t) = false ∧ prest (b :: t) = b :: t := by
  have h : pneg (b :: t) = false := by simp [pneg, Lib.hasPrefix, List.isPrefixOf]; exact fun e => hb e.symm
  exact ⟨h, by rw [prest, Lib.trimPrefix, if_neg (by rw [show Lib.hasPrefix (b :: t) [45] = pneg (b :: t) from rfl, h]; decide)]⟩

set_option maxRecDepth 100000 in
set_option maxHeartbeats 2000000 in
theorem rparse_c (s : ByteArray) (hs : s.size ≤ 9223372036854775807) (w : World) :
    Calls Try.prog 60 #[.string s] w (ParsePostI w s.data.toList) := by
  obtain ⟨l, hl⟩ : ∃ l, l = s.data.toList := ⟨_, rfl⟩
  rw [← hl]
  have hll : l.length = s.size := by rw [hl]; rfl
  have HL := hide (And.intro hl hll)
  have hcase : (s.size = 0 ∧ pneg l = false ∧ prest l = l) ∨ (∃ h : 0 < s.size, ((s[0].toNat : Int) == 45) = true ∧ pneg l = true ∧ prest l = (s.extract 1 s.size).data.toList) ∨ (∃ h : 0 < s.size, ((s[0].toNat : Int) == 45) = false ∧ pneg l = false ∧ prest l = l) := by
    cases hc : l with
    | nil => exact .inl ⟨by rw [← hll, hc]; rfl, pneg_nil.1, pneg_nil.2⟩
    | cons b t =>
      have h0 : 0 < s.size := by rw [← hll, hc]; simp
      have hb : s[0] = b := by
        have h1 := byte_at s h0
        rw [← hl, hc] at h1
        simpa using h1.symm
      by_cases e : b = 45
      · refine .inr (.inl ⟨h0, by rw [hb, e]; rfl, by rw [e]; exact (pneg_cons_yes t).1, ?_⟩)
        rw [e, (pneg_cons_yes t).2, Lib.extract_to_end, ← hl, hc]
        rfl
      · refine .inr (.inr ⟨h0, ?_, (pneg_cons_no e).1, (pneg_cons_no e).2⟩)
        rw [hb]
        have : b.toNat ≠ 45 := fun h => e (UInt8.toNat_inj.1 (by simpa using h))
        simp; omega
  clear hl hll
  rcases hcase with ⟨h0, p1, p2⟩ | ⟨h0, hb, p1, p2⟩ | ⟨h0, hb, p1, p2⟩
  · have P := hide (And.intro p1 p2)
    have h0i : ¬ (0 : Int) < (s.size : Int) := by omega
    have hsz : s.size ≤ 9223372036854775807 := hs
    clear p1 p2 h0
    go_enter Try.func60, Try.ntmps60
    go_wp2_with fail
    obtain ⟨w0, hw0⟩ : ∃ w0, w0 = (w.alloc (.cells #[.bool false, .slice none 0 0] 24)) := ⟨_, rfl⟩
    have kw00 : Blk w0 (w.heap.size) 24 #[.bool false, .slice none 0 0] := by rw [hw0]; exact allocs_blk [(#[.bool false, .slice none 0 0], 24)] w 0 _ _ rfl
    have fr : Fr w [(w.heap.size, 2)] w0 := Fr.cons ((⟨by rw [hw0]; exact allocs_below [(#[.bool false, .slice none 0 0], 24)] w, fun _ h => by cases h⟩ : Fr w [] w0)) (g := w.heap.size) (k := 2) (by omega) (.of_blk kw00 rfl)
    have sw0 : w0.heap.size = w.heap.size + 1 := by rw [hw0]; exact allocs_size [(#[.bool false, .slice none 0 0], 24)] w
    rw [← hw0]
    clear hw0
    clear kw00
    refine (refParse_c s hsz _).mono ?_
    rintro e w1 ⟨A1, n1, c1, d1, rfl, N1, v1, O1, hw⟩
    rw [show s.data.toList = prest l by rw [(unhide P).2, (unhide HL).1]] at v1 ⊢
    replace fr := fr.below hw
    have z1 := hw.size
    have i1 := O1.toIn
    have hlz := len_zero N1 i1
    have hlI := i1.lenI
    rw [v1] at hlz
    have V1 := hide v1
    clear hw v1 O1
    obtain ⟨⟨_, k0, f0⟩, ⟨_, k1, f1⟩⟩ := fr.two (g := w.heap.size) (by simp)
    by_cases he : parseE (prest l) = 0
    · have hpn := Nat.lt_of_le_of_lt (Nat.le_refl (val d1)) (by rw [unhide V1]; exact parseV_lt (prest l))
      have b1 : n1 ≤ 125 := by
        have h := N1.length_le hpn
        rwa [i1.len] at h
      have PG := hide (parseI_good he (fun h => by rw [(unhide P).1] at h; cases h.1))
      rw [he]
      clear he hlz hpn
      go_wp2_with fail
      refine (rnew_v (K := 125) _ ⟨i1, rfl, b1⟩ (Nat.le_refl _) (by omega)).mono ?_
      rintro e w2 ⟨A2, n2, c2, l2, rfl, N2, O2, i2, hw⟩
      replace fr := fr.below hw
      have e2 := unhide V1
      obtain ⟨p1, p2⟩ := unhide PG
      rw [(unhide P).1, ← e2] at p2
      rw [← p2] at i2 ⊢
      have PP := hide (And.intro p1 p2)
      clear p1 p2 e2 hw k0 k1 f0 f1
      obtain ⟨⟨_, k0, f0⟩, ⟨_, k1, f1⟩⟩ := fr.two (g := w.heap.size) (by simp)
      go_wp2_with fail
      refine bodyPost_ret (v := .tuple #[.agg #[.bool (decide (parseIV l < 0)), .slice A2 n2 c2], .int .i64 0]) (by simp [results, Try.results60, go_sem, k0, k1, f0, f1]) rfl ?_
      have h0 : w.heap.size < w1.heap.size := by omega
      exact ⟨A2, n2, c2, l2, by rw [(unhide PP).1], N2, (O2.set2 h0).base (by omega), ⟨(O2.set2 h0).toIn, i2.zi, i2.le⟩, ((fr.set (by simp) _).set (by simp) _).bel⟩
    · have PB := hide (parseI_bad he)
      obtain ⟨E, hE⟩ : ∃ E, E = parseE (prest l) := ⟨_, rfl⟩
      rw [← hE] at he PB
      rw [← hE]
      have he' : (E != 0) = true := by simpa using he
      have he2 : (E == 0) = false := by simpa using he
      clear he hE
      go_wp2_with fail
      refine bodyPost_ret (v := .tuple #[.agg #[.bool false, .slice none 0 0], .int .i64 E]) (by simp [results, Try.results60, go_sem, k0, k1, f0, f1]) rfl ?_
      exact .zero (unhide PB) rfl ((fr.set (by simp) _).set (by simp) _).bel
  · have P := hide (And.intro p1 p2)
    have h0i : (0 : Int) < (s.size : Int) := by omega
    have hsz : (s.extract 1 s.size).size ≤ 9223372036854775807 := by
      have h1 : (s.extract 1 s.size).size = (s.extract 1 s.size).data.toList.length := rfl
      rw [h1, Lib.extract_to_end, List.length_drop, ← (unhide HL).1, (unhide HL).2]; omega
    clear p1 p2
    go_enter Try.func60, Try.ntmps60
    go_wp2_with fail
    obtain ⟨w0, hw0⟩ : ∃ w0, w0 = (w.alloc (.cells #[.bool false, .slice none 0 0] 24)) := ⟨_, rfl⟩
    have kw00 : Blk w0 (w.heap.size) 24 #[.bool false, .slice none 0 0] := by rw [hw0]; exact allocs_blk [(#[.bool false, .slice none 0 0], 24)] w 0 _ _ rfl
    have fr : Fr w [(w.heap.size, 2)] w0 := Fr.cons ((⟨by rw [hw0]; exact allocs_below [(#[.bool false, .slice none 0 0], 24)] w, fun _ h => by cases h⟩ : Fr w [] w0)) (g := w.heap.size) (k := 2) (by omega) (.of_blk kw00 rfl)
    have sw0 : w0.heap.size = w.heap.size + 1 := by rw [hw0]; exact allocs_size [(#[.bool false, .slice none 0 0], 24)] w
    rw [← hw0]
    clear hw0
    clear kw00
    refine (refParse_c (s.extract 1 s.size) hsz _).mono ?_
    rintro e w1 ⟨A1, n1, c1, d1, rfl, N1, v1, O1, hw⟩
    rw [show (s.extract 1 s.size).data.toList = prest l from (unhide P).2.symm] at v1 ⊢
    replace fr := fr.below hw
    have z1 := hw.size
    have i1 := O1.toIn
    have hlz := len_zero N1 i1
    have hlI := i1.lenI
    rw [v1] at hlz
    have V1 := hide v1
    clear hw v1 O1
    obtain ⟨⟨_, k0, f0⟩, ⟨_, k1, f1⟩⟩ := fr.two (g := w.heap.size) (by simp)
    by_cases he : parseE (prest l) = 0
    · have hpn := Nat.lt_of_le_of_lt (Nat.le_refl (val d1)) (by rw [unhide V1]; exact parseV_lt (prest l))
      have b1 : n1 ≤ 125 := by
        have h := N1.length_le hpn
        rwa [i1.len] at h
      by_cases hz : parseV (prest l) = 0
      · have PB := hide (parseI_zero he (unhide P).1 hz)
        rw [decide_eq_true hz] at hlz
        rw [he]
        clear he hz hpn
        go_wp2_with fail
        refine bodyPost_ret (v := .tuple #[.agg #[.bool false, .slice none 0 0], .int .i64 3]) (by simp [results, Try.results60, go_sem, k0, k1, f0, f1]) rfl ?_
        exact .zero (unhide PB) rfl ((fr.set (by simp) _).set (by simp) _).bel
      · have PG := hide (parseI_good he (fun h => hz h.2))
        rw [decide_eq_false hz] at hlz
        rw [he]
        clear he hz hpn
        go_wp2_with fail
        refine (rnew_v (K := 125) _ ⟨i1, rfl, b1⟩ (Nat.le_refl _) (by omega)).mono ?_
        rintro e w2 ⟨A2, n2, c2, l2, rfl, N2, O2, i2, hw⟩
        replace fr := fr.below hw
        have e2 := unhide V1
        obtain ⟨p1, p2⟩ := unhide PG
        rw [(unhide P).1, ← e2] at p2
        rw [← p2] at i2 ⊢
        have PP := hide (And.intro p1 p2)
        clear p1 p2 e2 hw k0 k1 f0 f1
        obtain ⟨⟨_, k0, f0⟩, ⟨_, k1, f1⟩⟩ := fr.two (g := w.heap.size) (by simp)
        go_wp2_with fail
        refine bodyPost_ret (v := .tuple #[.agg #[.bool (decide (parseIV l < 0)), .slice A2 n2 c2], .int .i64 0]) (by simp [results, Try.results60, go_sem, k0, k1, f0, f1]) rfl ?_
        have h0 : w.heap.size < w1.heap.size := by omega
        exact ⟨A2, n2, c2, l2, by rw [(unhide PP).1], N2, (O2.set2 h0).base (by omega), ⟨(O2.set2 h0).toIn, i2.zi, i2.le⟩, ((fr.set (by simp) _).set (by simp) _).bel⟩
    · have PB := hide (parseI_bad he)
      obtain ⟨E, hE⟩ : ∃ E, E = parseE (prest l) := ⟨_, rfl⟩
      rw [← hE] at he PB
      rw [← hE]
      have he' : (E != 0) = true := by simpa using he
      have he2 : (E == 0) = false := by simpa using he
      clear he hE
      go_wp2_with fail
      refine bodyPost_ret (v := .tuple #[.agg #[.bool false, .slice none 0 0], .int .i64 E]) (by simp [results, Try.results60, go_sem, k0, k1, f0, f1]) rfl ?_
      exact .zero (unhide PB) rfl ((fr.set (by simp) _).set (by simp) _).bel
  · have P := hide (And.intro p1 p2)
    have h0i : (0 : Int) < (s.size : Int) := by omega
    have hsz : s.size ≤ 9223372036854775807 := hs
    clear p1 p2
    go_enter Try.func60, Try.ntmps60
    go_wp2_with fail
    obtain ⟨w0, hw0⟩ : ∃ w0, w0 = (w.alloc (.cells #[.bool false, .slice none 0 0] 24)) := ⟨_, rfl⟩
    have kw00 : Blk w0 (w.heap.size) 24 #[.bool false, .slice none 0 0] := by rw [hw0]; exact allocs_blk [(#[.bool false, .slice none 0 0], 24)] w 0 _ _ rfl
    have fr : Fr w [(w.heap.size, 2)] w0 := Fr.cons ((⟨by rw [hw0]; exact allocs_below [(#[.bool false, .slice none 0 0], 24)] w, fun _ h => by cases h⟩ : Fr w [] w0)) (g := w.heap.size) (k := 2) (by omega) (.of_blk kw00 rfl)
    have sw0 : w0.heap.size = w.heap.size + 1 := by rw [hw0]; exact allocs_size [(#[.bool false, .slice none 0 0], 24)] w
    rw [← hw0]
    clear hw0
    clear kw00
    refine (refParse_c s hsz _).mono ?_
    rintro e w1 ⟨A1, n1, c1, d1, rfl, N1, v1, O1, hw⟩
    rw [show s.data.toList = prest l by rw [(unhide P).2, (unhide HL).1]] at v1 ⊢
    replace fr := fr.below hw
    have z1 := hw.size
    have i1 := O1.toIn
    have hlz := len_zero N1 i1
    have hlI := i1.lenI
    rw [v1] at hlz
    have V1 := hide v1
    clear hw v1 O1
    obtain ⟨⟨_, k0, f0⟩, ⟨_, k1, f1⟩⟩ := fr.two (g := w.heap.size) (by simp)
    by_cases he : parseE (prest l) = 0
    · have hpn := Nat.lt_of_le_of_lt (Nat.le_refl (val d1)) (by rw [unhide V1]; exact parseV_lt (prest l))
      have b1 : n1 ≤ 125 := by
        have h := N1.length_le hpn
        rwa [i1.len] at h
      have PG := hide (parseI_good he (fun h => by rw [(unhide P).1] at h; cases h.1))
      rw [he]
      clear he hlz hpn
      go_wp2_with fail
      refine (rnew_v (K := 125) _ ⟨i1, rfl, b1⟩ (Nat.le_refl _) (by omega)).mono ?_
      rintro e w2 ⟨A2, n2, c2, l2, rfl, N2, O2, i2, hw⟩
      replace fr := fr.below hw
      have e2 := unhide V1
      obtain ⟨p1, p2⟩ := unhide PG
      rw [(unhide P).1, ← e2] at p2
      rw [← p2] at i2 ⊢
      have PP := hide (And.intro p1 p2)
      clear p1 p2 e2 hw k0 k1 f0 f1
      obtain ⟨⟨_, k0, f0⟩, ⟨_, k1, f1⟩⟩ := fr.two (g := w.heap.size) (by simp)
      go_wp2_with fail
      refine bodyPost_ret (v := .tuple #[.agg #[.bool (decide (parseIV l < 0)), .slice A2 n2 c2], .int .i64 0]) (by simp [results, Try.results60, go_sem, k0, k1, f0, f1]) rfl ?_
      have h0 : w.heap.size < w1.heap.size := by omega
      exact ⟨A2, n2, c2, l2, by rw [(unhide PP).1], N2, (O2.set2 h0).base (by omega), ⟨(O2.set2 h0).toIn, i2.zi, i2.le⟩, ((fr.set (by simp) _).set (by simp) _).bel⟩
    · have PB := hide (parseI_bad he)
      obtain ⟨E, hE⟩ : ∃ E, E = parseE (prest l) := ⟨_, rfl⟩
      rw [← hE] at he PB
      rw [← hE]
      have he' : (E != 0) = true := by simpa using he
      have he2 : (E == 0) = false := by simpa using he
      clear he hE
      go_wp2_with fail
      refine bodyPost_ret (v := .tuple #[.agg #[.bool false, .slice none 0 0], .int .i64 E]) (by simp [results, Try.results60, go_sem, k0, k1, f0, f1]) rfl ?_
      exact .zero (unhide PB) rfl ((fr.set (by simp) _).set (by simp) _).bel

end Go.Proofs.Ytjdcolaefhheaaa
