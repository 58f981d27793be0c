/-
  Text of numbers: part one.
-/
import Derived.Test.YtlpnjoenkohadaaDoorRf
import Derived.Test.YtlpnjoenkohadaaDoorRg
import Derived.Lib.IndexBytes
import Derived.Test.YtlpnjoenkohadaaDoorJe
import Derived.IntWalk
import Derived.Test.YtlpnjoenkohadaaDoorQP
import Derived.Test.YtlpnjoenkohadaaDoorShelf
import Derived.Test.YtlpnjoenkohadaaDoorAo
import Derived.Test.YtlpnjoenkohadaaDoorQg
namespace Go.Proofs.YtlpnjoenkohadaaDoor
set_option linter.unusedVariables false
set_option linter.unusedSimpArgs false
open Go.RowKit

attribute [local go_sem ↓] Go.wp_at_zero Go.wp_at_succ

def fmtI (x : Int) : List UInt8 := if x < 0 then 45 :: decS x.natAbs else decS x.natAbs
theorem fmtI_neg {x : Int} (h : x < 0) : fmtI x = 45 :: decS x.natAbs := if_pos h
theorem fmtI_pos {x : Int} (h : ¬ x < 0) : fmtI x = decS x.natAbs := if_neg h
theorem sgn_neg {x : Int} (h : x < 0) : sgn x = -1 := if_pos h
theorem sgn_pos {x : Int} (h : ¬ x < 0) : ¬ sgn x < 0 := by unfold sgn; rw [if_neg h]; split <;> omega

set_option maxRecDepth 100000 in
set_option maxHeartbeats 2000000 in
theorem iformat_c {Aa : Option Addr} {na ca : Nat} {la : List Nat} {sa : Bool} {xa : Int} {Ka : Nat} (w : World) (ia : II w sa Aa na ca la xa Ka) (hK : Ka ≤ 1073741824) :
    Calls Tryd.prog 31 #[.agg #[.bool sa, .slice Aa na ca]] w (RetV w (strOf (fmtI xa))) := by
  have hna := ia.le
  have ex := ia.abs
  have EX := hide ex
  clear ex
  go_enter Tryd.func31, Tryd.ntmps31
  go_wp2_with fail
  obtain ⟨w0, hw0⟩ : ∃ w0, w0 = (w.alloc (.cells #[.bool sa, .slice Aa na ca] 64)) := ⟨_, rfl⟩
  have kw00 : Blk w0 (w.heap.size) 64 #[.bool sa, .slice Aa na ca] := by rw [hw0]; exact allocs_blk [(#[.bool sa, .slice Aa na ca], 64)] w 0 _ _ rfl
  have fr : Fr w [] w0 := (⟨by rw [hw0]; exact allocs_below [(#[.bool sa, .slice Aa na ca], 64)] w, fun _ h => by cases h⟩ : Fr w [] w0)
  have sw0 : w0.heap.size = w.heap.size + 1 := by rw [hw0]; exact allocs_size [(#[.bool sa, .slice Aa na ca], 64)] w
  rw [← hw0]
  clear hw0
  have a0 := kw00.cell 0
  have a1 := kw00.cell 1
  clear kw00
  refine (isign_v _ (fr.ii ia) (by omega)).mono ?_
  rintro e w1 ⟨rfl, hw⟩
  replace fr := fr.below hw
  replace a0 := keepc hw a0
  replace a1 := keepc hw a1
  clear hw
  by_cases h : xa < 0
  · rw [sgn_neg h]
    have F := hide (fmtI_neg h)
    clear h
    go_wp2_with fail
    refine (format_c _ (fr.ii ia).inn (by omega)).mono ?_
    rintro e w2 ⟨rfl, hw⟩
    replace fr := fr.below hw
    have hlen : (decS (val la)).length ≤ 10 * Ka + 10 := by
      have h := decS_len (k := Ka + 1) (by omega) (Nat.lt_of_lt_of_le (val_lt_of ia.inn.dig (Nat.le_of_eq ia.inn.len)) (pw_le (by omega)))
      omega
    have hsz : (ByteArray.mk (decS (val la)).toArray).size ≤ 10737418250 := by
      show (decS (val la)).toArray.size ≤ _
      rw [List.size_toArray]; omega
    unfold strOf
    go_wp2_with fail
    go_ret
    refine ⟨?_, fr.bel⟩
    rw [unhide F, unhide EX]
    show Ending.returned (Value.string (⟨[45].toArray⟩ ++ ⟨(decS (val la)).toArray⟩)) = _
    rw [ByteArray.mk_append_mk]
    rfl
  · have hs := sgn_pos h
    have F := hide (fmtI_pos h)
    obtain ⟨z, hz⟩ : ∃ z, z = sgn xa := ⟨_, rfl⟩
    rw [← hz] at hs
    rw [← hz]
    clear h hz
    go_wp2_with fail
    refine (format_c _ (fr.ii ia).inn (by omega)).mono ?_
    rintro e w2 ⟨rfl, hw⟩
    replace fr := fr.below hw
    go_wp2_with fail
    go_ret
    exact ⟨by rw [unhide F, unhide EX]; rfl, fr.bel⟩

set_option maxRecDepth 100000 in
set_option maxHeartbeats 2000000 in
theorem rformat_c {Aa : Option Addr} {na ca : Nat} {la : List Nat} {sa : Bool} {xa : Int} {Ka : Nat} (w : World) (ia : II w sa Aa na ca la xa Ka) (hK : Ka ≤ 1073741824) :
    Calls Tryd.prog 36 #[.agg #[.bool sa, .slice Aa na ca]] w (RetV w (strOf (fmtI xa))) := by
  have hna := ia.le
  have ex := ia.abs
  have EX := hide ex
  clear ex
  have hlen : (decS (val la)).length ≤ 10 * Ka + 10 := by
    have h := decS_len (k := Ka + 1) (by omega) (Nat.lt_of_lt_of_le (val_lt_of ia.inn.dig (Nat.le_of_eq ia.inn.len)) (pw_le (by omega)))
    omega
  have hsz : (ByteArray.mk (decS (val la)).toArray).size ≤ 10737418250 := by
    show (decS (val la)).toArray.size ≤ _
    rw [List.size_toArray]; omega
  go_enter Tryd.func36, Tryd.ntmps36
  go_wp2_with fail
  obtain ⟨w0, hw0⟩ : ∃ w0, w0 = (w.alloc (.cells #[.bool sa, .slice Aa na ca] 64)) := ⟨_, rfl⟩
  have kw00 : Blk w0 (w.heap.size) 64 #[.bool sa, .slice Aa na ca] := by rw [hw0]; exact allocs_blk [(#[.bool sa, .slice Aa na ca], 64)] w 0 _ _ rfl
  have fr : Fr w [] w0 := (⟨by rw [hw0]; exact allocs_below [(#[.bool sa, .slice Aa na ca], 64)] w, fun _ h => by cases h⟩ : Fr w [] w0)
  have sw0 : w0.heap.size = w.heap.size + 1 := by rw [hw0]; exact allocs_size [(#[.bool sa, .slice Aa na ca], 64)] w
  rw [← hw0]
  clear hw0
  have a0 := kw00.cell 0
  have a1 := kw00.cell 1
  clear kw00
  refine (refFormat_c _ (fr.ii ia).inn (by omega)).mono ?_
  rintro e w1 ⟨rfl, hw⟩
  replace fr := fr.below hw
  replace a0 := keepc hw a0
  replace a1 := keepc hw a1
  clear hw
  unfold strOf
  go_wp2_with fail
  refine (rsign_v _ (fr.ii ia) (by omega)).mono ?_
  rintro e w2 ⟨rfl, hw⟩
  replace fr := fr.below hw
  clear hw
  by_cases h : xa < 0
  · rw [sgn_neg h]
    have F := hide (fmtI_neg h)
    clear h
    go_wp2_with fail
    go_ret
    refine ⟨?_, fr.bel⟩
    rw [unhide F, unhide EX]
    show Ending.returned (Value.string (⟨[45].toArray⟩ ++ ⟨(decS (val la)).toArray⟩)) = _
    rw [ByteArray.mk_append_mk]
    rfl
  · have hs := sgn_pos h
    have F := hide (fmtI_pos h)
    obtain ⟨z, hz⟩ : ∃ z, z = sgn xa := ⟨_, rfl⟩
    rw [← hz] at hs
    rw [← hz]
    clear h hz
    go_wp2_with fail
    go_ret
    exact ⟨by rw [unhide F, unhide EX]; rfl, fr.bel⟩

def pneg (l : List UInt8) : Bool := Lib.hasPrefix l [45]
def prest (l : List UInt8) : List UInt8 := Lib.trimPrefix l [45]
def parseIE (l : List UInt8) : Int := if parseE (prest l) = 0 then (if pneg l = true ∧ parseV (prest l) = 0 then 3 else 0) else parseE (prest l)
def parseIV (l : List UInt8) : Int := if parseIE l = 0 then zi (pneg l) (parseV (prest l)) else 0
theorem parseI_bad {l : List UInt8} (h : parseE (prest l) ≠ 0) : parseIE l = parseE (prest l) ∧ parseIV l = 0 := by
  have h1 : parseIE l = parseE (prest l) := if_neg h
  exact ⟨h1, by rw [parseIV, if_neg (by rw [h1]; exact h)]⟩
theorem parseI_zero {l : List UInt8} (h : parseE (prest l) = 0) (h2 : pneg l = true) (h3 : parseV (prest l) = 0) : parseIE l = 3 ∧ parseIV l = 0 := by
  have h1 : parseIE l = 3 := by rw [parseIE, if_pos h, if_pos ⟨h2, h3⟩]
  exact ⟨h1, by rw [parseIV, if_neg (by rw [h1]; omega)]⟩
theorem parseI_good {l : List UInt8} (h : parseE (prest l) = 0) (h2 : ¬ (pneg l = true ∧ parseV (prest l) = 0)) : parseIE l = 0 ∧ parseIV l = zi (pneg l) (parseV (prest l)) := by
  have h1 : parseIE l = 0 := by rw [parseIE, if_pos h, if_neg h2]
  exact ⟨h1, by rw [parseIV, if_pos h1]⟩
theorem parseV_lt (l : List UInt8) : parseV l < pw 125 := by
  by_cases h : parseE l = 0
  · obtain ⟨_, h2, h3, _⟩ := decS_parse h
    rw [parseV, if_pos h]
    exact rdv_pw h2 (by omega)
  · rw [parseV, if_neg h]; exact pw_pos _
def ParsePostI (w : World) (l : List UInt8) (e : Ending) (w' : World) : Prop :=
  ∃ A n c d, e = .returned (.tuple #[.agg #[.bool (decide (parseIV l < 0)), .slice A n c], .int .i64 (parseIE l)]) ∧ Norm d ∧ Own w' w.heap.size A n c d ∧ II w' (decide (parseIV l < 0)) A n c d (parseIV l) 125 ∧ Below w.heap.size w w'
theorem ParsePostI.zero {w w' : World} {l : List UInt8} {e : Ending} {E : Int} (h : parseIE l = E ∧ parseIV l = 0) (he : e = .returned (.tuple #[.agg #[.bool false, .slice none 0 0], .int .i64 E])) (hb : Below w.heap.size w w') : ParsePostI w l e w' :=
  ⟨none, 0, 0, [], by rw [he, h.1, h.2]; rfl, Norm.nil, Own.nil_, by rw [h.2]; exact ⟨In.nil_, rfl, Nat.zero_le _⟩, hb⟩
theorem len_zero {w : World} {A : Option Addr} {n c : Nat} {l : List Nat} (N : Norm l) (i : In w A n c l) : ((n : Int) == 0) = decide (val l = 0) := by
  by_cases h : val l = 0
  · rw [decide_eq_true h, ← i.len, N.zero h]; rfl
  · rw [decide_eq_false h]
    have : n ≠ 0 := by
      intro e
      have h1 := i.len
      rw [e] at h1
      rw [List.length_eq_zero_iff.1 h1] at h
      exact h rfl
    simp; omega

set_option maxRecDepth 100000 in
set_option maxHeartbeats 2000000 in
theorem iparse_c (s : ByteArray) (hs : s.size ≤ 9223372036854775807) (w : World) :
    Calls Tryd.prog 39 #[.string s] w (ParsePostI w s.data.toList) := by
  obtain ⟨l, hl⟩ : ∃ l, l = s.data.toList := ⟨_, rfl⟩
  rw [← hl]
  have hr : (prest l).length ≤ 9223372036854775807 := by
    have h1 : l.length = s.size := by rw [hl]; rfl
    unfold prest Lib.trimPrefix
    split
    · rw [List.length_drop]; omega
    · omega
  have HL := hide hl
  clear hl
  go_enter Tryd.func39, Tryd.ntmps39
  go_wp2_with fail
  obtain ⟨w0, hw0⟩ : ∃ w0, w0 = (w.alloc (.cells #[.bool false, .slice none 0 0] 64)) := ⟨_, rfl⟩
  have kw00 : Blk w0 (w.heap.size) 64 #[.bool false, .slice none 0 0] := by rw [hw0]; exact allocs_blk [(#[.bool false, .slice none 0 0], 64)] w 0 _ _ rfl
  have fr : Fr w [(w.heap.size, 2)] w0 := Fr.cons ((⟨by rw [hw0]; exact allocs_below [(#[.bool false, .slice none 0 0], 64)] w, fun _ h => by cases h⟩ : Fr w [] w0)) (g := w.heap.size) (k := 2) (by omega) (.of_blk kw00 rfl)
  have sw0 : w0.heap.size = w.heap.size + 1 := by rw [hw0]; exact allocs_size [(#[.bool false, .slice none 0 0], 64)] w
  rw [← hw0]
  clear hw0
  clear kw00
  refine (Tryd.strings_CutPrefix s _ _).mono ?_
  rintro e w' ⟨rfl, rfl⟩
  rw [← unhide HL]
  rw [show Lib.trimPrefix l (ByteArray.mk #[45]).data.toList = prest l from rfl, show Lib.hasPrefix l (ByteArray.mk #[45]).data.toList = pneg l from rfl]
  obtain ⟨r, hre⟩ : ∃ r, r = prest l := ⟨_, rfl⟩
  obtain ⟨σ, hσ⟩ : ∃ σ, σ = pneg l := ⟨_, rfl⟩
  rw [← hre, ← hσ]
  rw [← hre] at hr
  have HR := hide (And.intro hre hσ)
  clear hre hσ
  have hsz : (ByteArray.mk r.toArray).size ≤ 9223372036854775807 := by
    show r.toArray.size ≤ _
    rw [List.size_toArray]; exact hr
  go_wp2_with fail
  refine (parse_c ⟨r.toArray⟩ hsz _).mono ?_
  rintro e w1 ⟨A1, n1, c1, d1, rfl, N1, v1, O1, hw⟩
  rw [show (ByteArray.mk r.toArray).data.toList = r by simp] at v1 ⊢
  replace fr := fr.below hw
  have z1 := hw.size
  have i1 := O1.toIn
  have hlz := len_zero N1 i1
  have hlI := i1.lenI
  rw [v1] at hlz
  have V1 := hide v1
  clear hw v1 O1
  obtain ⟨⟨_, k0, f0⟩, ⟨_, k1, f1⟩⟩ := fr.two (g := w.heap.size) (by simp)
  by_cases he : parseE r = 0
  · have hpn := Nat.lt_of_le_of_lt (Nat.le_refl (val d1)) (by rw [unhide V1]; exact parseV_lt r)
    have b1 : n1 ≤ 125 := by
      have h := N1.length_le hpn
      rwa [i1.len] at h
    by_cases hz : σ = true ∧ parseV r = 0
    · have P := hide (parseI_zero (l := l) (by rw [← (unhide HR).1]; exact he) (by rw [← (unhide HR).2]; exact hz.1) (by rw [← (unhide HR).1]; exact hz.2))
      obtain ⟨rfl, hz2⟩ := hz
      rw [decide_eq_true hz2] at hlz
      rw [he]
      clear he hz2 hpn
      go_wp2_with fail
      refine bodyPost_ret (v := .tuple #[.agg #[.bool false, .slice none 0 0], .int .i64 3]) (by simp [results, Tryd.results39, go_sem, k0, k1, f0, f1]) rfl ?_
      exact .zero (unhide P) rfl ((fr.set (by simp) _).set (by simp) _).bel
    · have P := hide (parseI_good (l := l) (by rw [← (unhide HR).1]; exact he) (by rw [← (unhide HR).1, ← (unhide HR).2]; exact hz))
      have hcase : σ = false ∨ (σ = true ∧ decide (parseV r = 0) = false) := by
        cases σ
        · exact .inl rfl
        · exact .inr ⟨rfl, decide_eq_false fun h => hz ⟨rfl, h⟩⟩
      rw [he]
      clear he hz hpn
      rcases hcase with rfl | ⟨rfl, hd⟩
      case' inl => clear hlz
      case' inr => rw [hd] at hlz; clear hd
      all_goals
        go_wp2_with fail
        refine (inew_v (K := 125) _ ⟨i1, rfl, b1⟩ (Nat.le_refl _) (by omega)).mono ?_
        rintro e w2 ⟨A2, n2, c2, l2, rfl, N2, O2, i2, hw⟩
        replace fr := fr.below hw
        have e2 := unhide V1
        rw [(unhide HR).1] at e2
        obtain ⟨p1, p2⟩ := unhide P
        rw [← (unhide HR).2, ← e2] at p2
        obtain ⟨X, hX⟩ : ∃ X, X = zi _ (val d1) := ⟨_, p2⟩
        rw [← p2] at i2 ⊢
        have PP := hide (And.intro p1 p2)
        clear p1 p2 e2 hw k0 k1 f0 f1 hX
        obtain ⟨⟨_, k0, f0⟩, ⟨_, k1, f1⟩⟩ := fr.two (g := w.heap.size) (by simp)
        go_wp2_with fail
        refine bodyPost_ret (v := .tuple #[.agg #[.bool (decide (parseIV l < 0)), .slice A2 n2 c2], .int .i64 0]) (by simp [results, Tryd.results39, go_sem, k0, k1, f0, f1]) rfl ?_
        have h0 : w.heap.size < w1.heap.size := by omega
        exact ⟨A2, n2, c2, l2, by rw [(unhide PP).1], N2, (O2.set2 h0).base (by omega), ⟨(O2.set2 h0).toIn, i2.zi, i2.le⟩, ((fr.set (by simp) _).set (by simp) _).bel⟩
  · have P := hide (parseI_bad (l := l) (by rw [← (unhide HR).1]; exact he))
    rw [← (unhide HR).1] at P
    obtain ⟨E, hE⟩ : ∃ E, E = parseE r := ⟨_, rfl⟩
    rw [← hE] at he P
    rw [← hE]
    have he' : (E != 0) = true := by simpa using he
    clear he hE
    go_wp2_with fail
    refine bodyPost_ret (v := .tuple #[.agg #[.bool false, .slice none 0 0], .int .i64 E]) (by simp [results, Tryd.results39, go_sem, k0, k1, f0, f1]) rfl ?_
    exact .zero (unhide P) rfl ((fr.set (by simp) _).set (by simp) _).bel

theorem pneg_nil : pneg [] = false ∧ prest [] = [] := ⟨rfl, rfl⟩
theorem pneg_cons_yes (t : List UInt8) : pneg (45 :: t) = true ∧ prest (45 :: t) = t := by
  have h : pneg (45 :: t) = true := by simp [pneg, Lib.hasPrefix, List.isPrefixOf]
  exact ⟨h, by rw [prest, Lib.trimPrefix, if_pos (show Lib.hasPrefix (45 :: t) [45] = true from h)]; rfl⟩
theorem pneg_cons_no {b : UInt8} {t : List UInt8} (hb : b ≠ 45) : pneg (b :: t) = false ∧ prest (b :: t) = b :: t := by
  have h : pneg (b :: t) = false := by simp [pneg, Lib.hasPrefix, List.isPrefixOf]; exact fun e => hb e.symm
  exact ⟨h, by rw [prest, Lib.trimPrefix, if_neg (by rw [show Lib.hasPrefix (b :: t) [45] = pneg (b :: t) from rfl, h]; decide)]⟩

set_option maxRecDepth 100000 in
set_option maxHeartbeats 2000000 in
theorem rparse_c (s : ByteArray) (hs : s.size ≤ 9223372036854775807) (w : World) :
    Calls Tryd.prog 62 #[.string s] w (ParsePostI w s.data.toList) := by
  obtain ⟨l, hl⟩ : ∃ l, l = s.data.toList := ⟨_, rfl⟩
  rw [← hl]
  have hll : l.length = s.size := by rw [hl]; rfl
  have HL := hide (And.intro hl hll)
  have hcase : (s.size = 0 ∧ pneg l = false ∧ prest l = l) ∨ (∃ h : 0 < s.size, ((s[0].toNat : Int) == 45) = true ∧ pneg l = true ∧ prest l = (s.extract 1 s.size).data.toList) ∨ (∃ h : 0 < s.size, ((s[0].toNat : Int) == 45) = false ∧ pneg l = false ∧ prest l = l) := by
    cases hc : l with
    | nil => exact .inl ⟨by rw [← hll, hc]; rfl, pneg_nil.1, pneg_nil.2⟩
    | cons b t =>
      have h0 : 0 < s.size := by rw [← hll, hc]; simp
      have hb : s[0] = b := by
        have h1 := byte_at s h0
        rw [← hl, hc] at h1
        simpa using h1.symm
      by_cases e : b = 45
      · refine .inr (.inl ⟨h0, by rw [hb, e]; rfl, by rw [e]; exact (pneg_cons_yes t).1, ?_⟩)
        rw [e, (pneg_cons_yes t).2, Lib.extract_to_end, ← hl, hc]
        rfl
      · refine .inr (.inr ⟨h0, ?_, (pneg_cons_no e).1, (pneg_cons_no e).2⟩)
        rw [hb]
        have : b.toNat ≠ 45 := fun h => e (UInt8.toNat_inj.1 (by simpa using h))
        simp; omega
  clear hl hll
  rcases hcase with ⟨h0, p1, p2⟩ | ⟨h0, hb, p1, p2⟩ | ⟨h0, hb, p1, p2⟩
  · have P := hide (And.intro p1 p2)
    have h0i : ¬ (0 : Int) < (s.size : Int) := by omega
    have hsz : s.size ≤ 9223372036854775807 := hs
    clear p1 p2 h0
    go_enter Tryd.func62, Tryd.ntmps62
    go_wp2_with fail
    obtain ⟨w0, hw0⟩ : ∃ w0, w0 = (w.alloc (.cells #[.bool false, .slice none 0 0] 64)) := ⟨_, rfl⟩
    have kw00 : Blk w0 (w.heap.size) 64 #[.bool false, .slice none 0 0] := by rw [hw0]; exact allocs_blk [(#[.bool false, .slice none 0 0], 64)] w 0 _ _ rfl
    have fr : Fr w [(w.heap.size, 2)] w0 := Fr.cons ((⟨by rw [hw0]; exact allocs_below [(#[.bool false, .slice none 0 0], 64)] w, fun _ h => by cases h⟩ : Fr w [] w0)) (g := w.heap.size) (k := 2) (by omega) (.of_blk kw00 rfl)
    have sw0 : w0.heap.size = w.heap.size + 1 := by rw [hw0]; exact allocs_size [(#[.bool false, .slice none 0 0], 64)] w
    rw [← hw0]
    clear hw0
    clear kw00
    refine (refParse_c s hsz _).mono ?_
    rintro e w1 ⟨A1, n1, c1, d1, rfl, N1, v1, O1, hw⟩
    rw [show s.data.toList = prest l by rw [(unhide P).2, (unhide HL).1]] at v1 ⊢
    replace fr := fr.below hw
    have z1 := hw.size
    have i1 := O1.toIn
    have hlz := len_zero N1 i1
    have hlI := i1.lenI
    rw [v1] at hlz
    have V1 := hide v1
    clear hw v1 O1
    obtain ⟨⟨_, k0, f0⟩, ⟨_, k1, f1⟩⟩ := fr.two (g := w.heap.size) (by simp)
    by_cases he : parseE (prest l) = 0
    · have hpn := Nat.lt_of_le_of_lt (Nat.le_refl (val d1)) (by rw [unhide V1]; exact parseV_lt (prest l))
      have b1 : n1 ≤ 125 := by
        have h := N1.length_le hpn
        rwa [i1.len] at h
      have PG := hide (parseI_good he (fun h => by rw [(unhide P).1] at h; cases h.1))
      rw [he]
      clear he hlz hpn
      go_wp2_with fail
      refine (rnew_v (K := 125) _ ⟨i1, rfl, b1⟩ (Nat.le_refl _) (by omega)).mono ?_
      rintro e w2 ⟨A2, n2, c2, l2, rfl, N2, O2, i2, hw⟩
      replace fr := fr.below hw
      have e2 := unhide V1
      obtain ⟨p1, p2⟩ := unhide PG
      rw [(unhide P).1, ← e2] at p2
      rw [← p2] at i2 ⊢
      have PP := hide (And.intro p1 p2)
      clear p1 p2 e2 hw k0 k1 f0 f1
      obtain ⟨⟨_, k0, f0⟩, ⟨_, k1, f1⟩⟩ := fr.two (g := w.heap.size) (by simp)
      go_wp2_with fail
      refine bodyPost_ret (v := .tuple #[.agg #[.bool (decide (parseIV l < 0)), .slice A2 n2 c2], .int .i64 0]) (by simp [results, Tryd.results62, go_sem, k0, k1, f0, f1]) rfl ?_
      have h0 : w.heap.size < w1.heap.size := by omega
      exact ⟨A2, n2, c2, l2, by rw [(unhide PP).1], N2, (O2.set2 h0).base (by omega), ⟨(O2.set2 h0).toIn, i2.zi, i2.le⟩, ((fr.set (by simp) _).set (by simp) _).bel⟩
    · have PB := hide (parseI_bad he)
      obtain ⟨E, hE⟩ : ∃ E, E = parseE (prest l) := ⟨_, rfl⟩
      rw [← hE] at he PB
      rw [← hE]
      have he' : (E != 0) = true := by simpa using he
      have he2 : (E == 0) = false := by simpa using he
      clear he hE
      go_wp2_with fail
      refine bodyPost_ret (v := .tuple #[.agg #[.bool false, .slice none 0 0], .int .i64 E]) (by simp [results, Tryd.results62, go_sem, k0, k1, f0, f1]) rfl ?_
      exact .zero (unhide PB) rfl ((fr.set (by simp) _).set (by simp) _).bel
  · have P := hide (And.intro p1 p2)
    have h0i : (0 : Int) < (s.size : Int) := by omega
    have hsz : (s.extract 1 s.size).size ≤ 9223372036854775807 := by
      have h1 : (s.extract 1 s.size).size = (s.extract 1 s.size).data.toList.length := rfl
      rw [h1, Lib.extract_to_end, List.length_drop, ← (unhide HL).1, (unhide HL).2]; omega
    clear p1 p2
    go_enter Tryd.func62, Tryd.ntmps62
    go_wp2_with fail
    obtain ⟨w0, hw0⟩ : ∃ w0, w0 = (w.alloc (.cells #[.bool false, .slice none 0 0] 64)) := ⟨_, rfl⟩
    have kw00 : Blk w0 (w.heap.size) 64 #[.bool false, .slice none 0 0] := by rw [hw0]; exact allocs_blk [(#[.bool false, .slice none 0 0], 64)] w 0 _ _ rfl
    have fr : Fr w [(w.heap.size, 2)] w0 := Fr.cons ((⟨by rw [hw0]; exact allocs_below [(#[.bool false, .slice none 0 0], 64)] w, fun _ h => by cases h⟩ : Fr w [] w0)) (g := w.heap.size) (k := 2) (by omega) (.of_blk kw00 rfl)
    have sw0 : w0.heap.size = w.heap.size + 1 := by rw [hw0]; exact allocs_size [(#[.bool false, .slice none 0 0], 64)] w
    rw [← hw0]
    clear hw0
    clear kw00
    refine (refParse_c (s.extract 1 s.size) hsz _).mono ?_
    rintro e w1 ⟨A1, n1, c1, d1, rfl, N1, v1, O1, hw⟩
    rw [show (s.extract 1 s.size).data.toList = prest l from (unhide P).2.symm] at v1 ⊢
    replace fr := fr.below hw
    have z1 := hw.size
    have i1 := O1.toIn
    have hlz := len_zero N1 i1
    have hlI := i1.lenI
    rw [v1] at hlz
    have V1 := hide v1
    clear hw v1 O1
    obtain ⟨⟨_, k0, f0⟩, ⟨_, k1, f1⟩⟩ := fr.two (g := w.heap.size) (by simp)
    by_cases he : parseE (prest l) = 0
    · have hpn := Nat.lt_of_le_of_lt (Nat.le_refl (val d1)) (by rw [unhide V1]; exact parseV_lt (prest l))
      have b1 : n1 ≤ 125 := by
        have h := N1.length_le hpn
        rwa [i1.len] at h
      by_cases hz : parseV (prest l) = 0
      · have PB := hide (parseI_zero he (unhide P).1 hz)
        rw [decide_eq_true hz] at hlz
        rw [he]
        clear he hz hpn
        go_wp2_with fail
        refine bodyPost_ret (v := .tuple #[.agg #[.bool false, .slice none 0 0], .int .i64 3]) (by simp [results, Tryd.results62, go_sem, k0, k1, f0, f1]) rfl ?_
        exact .zero (unhide PB) rfl ((fr.set (by simp) _).set (by simp) _).bel
      · have PG := hide (parseI_good he (fun h => hz h.2))
        rw [decide_eq_false hz] at hlz
        rw [he]
        clear he hz hpn
        go_wp2_with fail
        refine (rnew_v (K := 125) _ ⟨i1, rfl, b1⟩ (Nat.le_refl _) (by omega)).mono ?_
        rintro e w2 ⟨A2, n2, c2, l2, rfl, N2, O2, i2, hw⟩
        replace fr := fr.below hw
        have e2 := unhide V1
        obtain ⟨p1, p2⟩ := unhide PG
        rw [(unhide P).1, ← e2] at p2
        rw [← p2] at i2 ⊢
        have PP := hide (And.intro p1 p2)
        clear p1 p2 e2 hw k0 k1 f0 f1
        obtain ⟨⟨_, k0, f0⟩, ⟨_, k1, f1⟩⟩ := fr.two (g := w.heap.size) (by simp)
        go_wp2_with fail
        refine bodyPost_ret (v := .tuple #[.agg #[.bool (decide (parseIV l < 0)), .slice A2 n2 c2], .int .i64 0]) (by simp [results, Tryd.results62, go_sem, k0, k1, f0, f1]) rfl ?_
        have h0 : w.heap.size < w1.heap.size := by omega
        exact ⟨A2, n2, c2, l2, by rw [(unhide PP).1], N2, (O2.set2 h0).base (by omega), ⟨(O2.set2 h0).toIn, i2.zi, i2.le⟩, ((fr.set (by simp) _).set (by simp) _).bel⟩
    · have PB := hide (parseI_bad he)
      obtain ⟨E, hE⟩ : ∃ E, E = parseE (prest l) := ⟨_, rfl⟩
      rw [← hE] at he PB
      rw [← hE]
      have he' : (E != 0) = true := by simpa using he
      have he2 : (E == 0) = false := by simpa using he
      clear he hE
      go_wp2_with fail
      refine bodyPost_ret (v := .tuple #[.agg #[.bool false, .slice none 0 0], .int .i64 E]) (by simp [results, Tryd.results62, go_sem, k0, k1, f0, f1]) rfl ?_
      exact .zero (unhide PB) rfl ((fr.set (by simp) _).set (by simp) _).bel
  · have P := hide (And.intro p1 p2)
    have h0i : (0 : Int) < (s.size : Int) := by omega
    have hsz : s.size ≤ 9223372036854775807 := hs
    clear p1 p2
    go_enter Tryd.func62, Tryd.ntmps62
    go_wp2_with fail
    obtain ⟨w0, hw0⟩ : ∃ w0, w0 = (w.alloc (.cells #[.bool false, .slice none 0 0] 64)) := ⟨_, rfl⟩
    have kw00 : Blk w0 (w.heap.size) 64 #[.bool false, .slice none 0 0] := by rw [hw0]; exact allocs_blk [(#[.bool false, .slice none 0 0], 64)] w 0 _ _ rfl
    have fr : Fr w [(w.heap.size, 2)] w0 := Fr.cons ((⟨by rw [hw0]; exact allocs_below [(#[.bool false, .slice none 0 0], 64)] w, fun _ h => by cases h⟩ : Fr w [] w0)) (g := w.heap.size) (k := 2) (by omega) (.of_blk kw00 rfl)
    have sw0 : w0.heap.size = w.heap.size + 1 := by rw [hw0]; exact allocs_size [(#[.bool false, .slice none 0 0], 64)] w
    rw [← hw0]
    clear hw0
    clear kw00
    refine (refParse_c s hsz _).mono ?_
    rintro e w1 ⟨A1, n1, c1, d1, rfl, N1, v1, O1, hw⟩
    rw [show s.data.toList = prest l by rw [(unhide P).2, (unhide HL).1]] at v1 ⊢
    replace fr := fr.below hw
    have z1 := hw.size
    have i1 := O1.toIn
    have hlz := len_zero N1 i1
    have hlI := i1.lenI
    rw [v1] at hlz
    have V1 := hide v1
    clear hw v1 O1
    obtain ⟨⟨_, k0, f0⟩, ⟨_, k1, f1⟩⟩ := fr.two (g := w.heap.size) (by simp)
    by_cases he : parseE (prest l) = 0
    · have hpn := Nat.lt_of_le_of_lt (Nat.le_refl (val d1)) (by rw [unhide V1]; exact parseV_lt (prest l))
      have b1 : n1 ≤ 125 := by
        have h := N1.length_le hpn
        rwa [i1.len] at h
      have PG := hide (parseI_good he (fun h => by rw [(unhide P).1] at h; cases h.1))
      rw [he]
      clear he hlz hpn
      go_wp2_with fail
      refine (rnew_v (K := 125) _ ⟨i1, rfl, b1⟩ (Nat.le_refl _) (by omega)).mono ?_
      rintro e w2 ⟨A2, n2, c2, l2, rfl, N2, O2, i2, hw⟩
      replace fr := fr.below hw
      have e2 := unhide V1
      obtain ⟨p1, p2⟩ := unhide PG
      rw [(unhide P).1, ← e2] at p2
      rw [← p2] at i2 ⊢
      have PP := hide (And.intro p1 p2)
      clear p1 p2 e2 hw k0 k1 f0 f1
      obtain ⟨⟨_, k0, f0⟩, ⟨_, k1, f1⟩⟩ := fr.two (g := w.heap.size) (by simp)
      go_wp2_with fail
      refine bodyPost_ret (v := .tuple #[.agg #[.bool (decide (parseIV l < 0)), .slice A2 n2 c2], .int .i64 0]) (by simp [results, Tryd.results62, go_sem, k0, k1, f0, f1]) rfl ?_
      have h0 : w.heap.size < w1.heap.size := by omega
      exact ⟨A2, n2, c2, l2, by rw [(unhide PP).1], N2, (O2.set2 h0).base (by omega), ⟨(O2.set2 h0).toIn, i2.zi, i2.le⟩, ((fr.set (by simp) _).set (by simp) _).bel⟩
    · have PB := hide (parseI_bad he)
      obtain ⟨E, hE⟩ : ∃ E, E = parseE (prest l) := ⟨_, rfl⟩
      rw [← hE] at he PB
      rw [← hE]
      have he' : (E != 0) = true := by simpa using he
      have he2 : (E == 0) = false := by simpa using he
      clear he hE
      go_wp2_with fail
      refine bodyPost_ret (v := .tuple #[.agg #[.bool false, .slice none 0 0], .int .i64 E]) (by simp [results, Tryd.results62, go_sem, k0, k1, f0, f1]) rfl ?_
      exact .zero (unhide PB) rfl ((fr.set (by simp) _).set (by simp) _).bel

attribute [local go_sem ↓] Go.wp_at_zero Go.wp_at_succ

def fitB (x : Int) : Bool := decide (-9223372036854775808 ≤ x ∧ x ≤ 9223372036854775807)
def toV (x : Int) : Int := if fitB x then x else 0
theorem fit_true {x : Int} (h1 : -9223372036854775808 ≤ x) (h2 : x ≤ 9223372036854775807) : fitB x = true ∧ toV x = x := by
  have h : fitB x = true := decide_eq_true ⟨h1, h2⟩
  exact ⟨h, by rw [toV, h]; rfl⟩
theorem fit_false {x : Int} (h : ¬ (-9223372036854775808 ≤ x ∧ x ≤ 9223372036854775807)) : fitB x = false ∧ toV x = 0 := by
  have h : fitB x = false := decide_eq_false h
  exact ⟨h, by rw [toV, h]; rfl⟩

set_option maxRecDepth 100000 in
set_option maxHeartbeats 4000000 in
theorem itoInt_c {A : Option Addr} {n c : Nat} {a : List Nat} {s : Bool} {x : Int} (w : World) (ha : In w A n c a) (hn : n ≤ 274877906944) (hx : zi s (val a) = x) :
    Calls Tryd.prog 40 #[.agg #[.bool s, .slice A n c]] w (RetV w (.tuple #[.int .i64 (toV x), .bool (fitB x)])) := by
  have HX := hide hx
  clear hx
  go_enter Tryd.func40, Tryd.ntmps40
  go_wp2_with fail
  obtain ⟨w0, hw0⟩ : ∃ w0, w0 = (w.alloc (.cells #[.bool s, .slice A n c] 64)) := ⟨_, rfl⟩
  have kw00 : Blk w0 (w.heap.size) 64 #[.bool s, .slice A n c] := by rw [hw0]; exact allocs_blk [(#[.bool s, .slice A n c], 64)] w 0 _ _ rfl
  have fr : Fr w [] w0 := (⟨by rw [hw0]; exact allocs_below [(#[.bool s, .slice A n c], 64)] w, fun _ h => by cases h⟩ : Fr w [] w0)
  have sw0 : w0.heap.size = w.heap.size + 1 := by rw [hw0]; exact allocs_size [(#[.bool s, .slice A n c], 64)] w
  rw [← hw0]
  clear hw0
  have a0 := kw00.cell 0
  have a1 := kw00.cell 1
  clear kw00
  refine (normalize_c _ (fr.in_ ha) (by omega)).mono ?_
  rintro e w1 ⟨A1, p, c1, rfl, o1, hw⟩
  have N1 := trim_norm ha.dig
  have v1 := val_trim a
  have hl := o1.len
  have fr1 := fr.below hw
  replace a0 := keepc hw a0
  replace a1 := keepc hw a1
  have i1 := o1.toIn
  have hpI := i1.lenI
  obtain ⟨l, hlt⟩ : ∃ l, l = trim a := ⟨_, rfl⟩
  rw [← hlt] at N1 v1 hl i1
  have V1 := hide v1
  have HL := hide hl
  clear hlt v1 hl o1 hw
  by_cases hp : p ≤ 2
  · have hv2 : val l < 18446744073709551616 := by
      have := val_lt_of N1.dig (Nat.le_trans (Nat.le_of_eq (unhide HL)) hp)
      rwa [show pw 2 = 18446744073709551616 by rw [pw_two]] at this
    have hpi : (p : Int) ≤ 2 := by omega
    have hpf : ¬ (2 : Int) < (p : Int) := by omega
    have HP := hide hp
    have HV2 := hide hv2
    clear hp hv2
    go_wp2_with fail
    go_loop [5, 6] (fun sn si => ∃ (k v : Nat) (z : Int), k ≤ p ∧ z + 1 = k ∧ si = .int .i64 z ∧ sn = .int .u64 v ∧ Hid (v = val (l.drop k)) ∧ v < 18446744073709551616) (fun _ si => (intOf si + 1).toNat)
    case atStart => exact ⟨p, 0, (p : Int) - 1, Nat.le_refl _, by omega, rfl, rfl, (by show _ = _; rw [val_drop_all (by rw [unhide HL]; exact Nat.le_refl _)]), by omega⟩
    case round =>
      obtain ⟨k, v, z, hk, hz, rfl, rfl, hI, hv⟩ := hrel
      by_cases hk0 : k = 0
      · subst hk0
        obtain rfl : z = -1 := by omega
        clear hz
        have hvx : v = x.natAbs := by
          have h := unhide hI
          rw [List.drop_zero, unhide V1] at h
          rw [h, ← unhide HX, zi_abs]
        have hxs : x = zi s v := by
          have h := unhide hI
          rw [List.drop_zero, unhide V1] at h
          rw [h]; exact (unhide HX).symm
        have HXS := hide hxs
        clear hvx hxs
        rcases Nat.lt_trichotomy v 9223372036854775808 with h | h | h
        · have t1 : ¬ (9223372036854775808 : Int) < (v : Int) := by omega
          have t2 : (((v : Nat) : Int) == 9223372036854775808) = false := by simp; omega
          cases s
          · have K : Hid (fitB x = true ∧ toV x = (v : Int)) := by
              have e : x = (v : Int) := unhide HXS
              rw [← e]
              exact fit_true (by omega) (by omega)
            have e1 : IntKind.i64.wrap (v : Int) = (v : Int) := IntWalk.i64_in _ (by omega)
            go_wp2_with fail
            go_ret2
            rw [(unhide K).1, (unhide K).2]
            exact ⟨rfl, fr1.bel⟩
          · have K : Hid (fitB x = true ∧ toV x = -(v : Int)) := by
              have e : x = -(v : Int) := unhide HXS
              rw [← e]
              exact fit_true (by omega) (by omega)
            have e1 : IntKind.i64.wrap (IntKind.u64.wrap (-(v : Int))) = -(v : Int) := by rw [u64_wrap, IntKind.wrap_i64]; omega
            go_wp2_with fail
            go_ret2
            rw [(unhide K).1, (unhide K).2]
            exact ⟨rfl, fr1.bel⟩
        · have t1 : ¬ (9223372036854775808 : Int) < (v : Int) := by omega
          have t2 : (((v : Nat) : Int) == 9223372036854775808) = true := by simp; omega
          cases s
          · have K : Hid (fitB x = false ∧ toV x = 0) := by
              have e : x = (v : Int) := unhide HXS
              exact fit_false (by omega)
            clear h
            go_wp2_with fail
            go_ret2
            rw [(unhide K).1, (unhide K).2]
            exact ⟨rfl, fr1.bel⟩
          · have K : Hid (fitB x = true ∧ toV x = -(v : Int)) := by
              have e : x = -(v : Int) := unhide HXS
              rw [← e]
              exact fit_true (by omega) (by omega)
            have e1 : IntKind.i64.wrap (IntKind.u64.wrap (-(v : Int))) = -(v : Int) := by rw [u64_wrap, IntKind.wrap_i64]; omega
            clear h
            go_wp2_with fail
            go_ret2
            rw [(unhide K).1, (unhide K).2]
            exact ⟨rfl, fr1.bel⟩
        · have t1 : (9223372036854775808 : Int) < (v : Int) := by omega
          have K : Hid (fitB x = false ∧ toV x = 0) := by
            have e := unhide HXS
            have h5 := zi_abs s v
            rw [← e] at h5
            exact fit_false (by omega)
          go_wp2_with fail
          go_ret2
          rw [(unhide K).1, (unhide K).2]
          exact ⟨rfl, fr1.bel⟩
      · obtain ⟨j, rfl⟩ : ∃ j, k = j + 1 := ⟨k - 1, by omega⟩
        obtain rfl : z = (j : Int) := by omega
        clear hz hk0
        obtain ⟨ad, hA, hca⟩ := i1.at_ (k := j) (by omega)
        have hd := i1.dig j
        subst hA
        have hvs : v < 4294967296 := by
          have h1 : val (l.drop (j + 1)) < pw 1 := val_lt_of (N1.dig.drop _) (by rw [List.length_drop, unhide HL]; have := unhide HP; omega)
          rw [← unhide hI, pw_two] at h1
          exact h1
        have hor := or_join (x := v) (y := dg l j) hvs hd
        have hjp : (j : Int) < (p : Int) := by omega
        go_wp2_with fail
        go_round
        case rel => exact ⟨j, v * 4294967296 + dg l j, (j : Int) - 1, by omega, by omega, rfl, rfl, (by show _ = _; rw [val_drop_succ (by rw [unhide HL]; omega), ← unhide hI]; omega), by omega⟩
        case measure => simp [intOf]
  · have hpf : (2 : Int) < (p : Int) := by omega
    have hpf' : ¬ (p : Int) ≤ 2 := by omega
    have hbig : Hid (fitB x = false ∧ toV x = 0) := fit_false (by
      have h1 := N1.pos (by rintro rfl; have h := unhide HL; simp at h; omega)
      have h2 := pw_le (show 2 ≤ l.length - 1 by rw [unhide HL]; omega)
      have h3 : pw 2 = 18446744073709551616 := by rw [pw_two]
      have h4 := zi_abs s (val a)
      rw [unhide HX] at h4
      have h5 := unhide V1
      omega)
    have hp0 : (0 : Int) ≤ (p : Int) - 1 := by omega
    go_wp2_with fail
    go_loop [5, 6] (fun sn si => sn = .int .u64 0 ∧ si = .int .i64 ((p : Int) - 1)) (fun _ _ => 0)
    case atStart => exact ⟨rfl, rfl⟩
    case round =>
      obtain ⟨rfl, rfl⟩ := hrel
      go_wp2_with fail
      go_ret2
      rw [(unhide hbig).1, (unhide hbig).2]
      exact ⟨rfl, fr1.bel⟩

attribute [local go_sem ↓] Go.wp_at_zero Go.wp_at_succ

theorem or_join2 {x y : Nat} (hx : x < 4294967296) (hy : y < 4294967296) : bits .or .u64 (y : Int) ((x : Int) * 4294967296) = ((x * 4294967296 + y : Nat) : Int) := by
  rw [show (x : Int) * 4294967296 = ((x * 4294967296 : Nat) : Int) by omega, u64_or_nat _ _ (by omega) (by omega), Nat.or_comm, nat_join 32 _ _ (by omega) (by omega)]
theorem or_zero1 {y : Nat} (hy : y < 4294967296) : bits .or .u64 0 (y : Int) = (y : Int) := by
  rw [show (0 : Int) = ((0 : Nat) : Int) from rfl, u64_or_nat _ _ (by omega) (by omega), Nat.zero_or]

set_option maxRecDepth 100000 in
set_option maxHeartbeats 4000000 in
theorem rtoInt_c {A : Option Addr} {n c : Nat} {a : List Nat} {s : Bool} {x : Int} (w : World) (ha : In w A n c a) (hn : n ≤ 274877906944) (hx : zi s (val a) = x) :
    Calls Tryd.prog 63 #[.agg #[.bool s, .slice A n c]] w (RetV w (.tuple #[.int .i64 (toV x), .bool (fitB x)])) := by
  have HX := hide hx
  clear hx
  go_enter Tryd.func63, Tryd.ntmps63
  go_wp2_with fail
  obtain ⟨w0, hw0⟩ : ∃ w0, w0 = (w.alloc (.cells #[.bool s, .slice A n c] 64)) := ⟨_, rfl⟩
  have kw00 : Blk w0 (w.heap.size) 64 #[.bool s, .slice A n c] := by rw [hw0]; exact allocs_blk [(#[.bool s, .slice A n c], 64)] w 0 _ _ rfl
  have fr : Fr w [] w0 := (⟨by rw [hw0]; exact allocs_below [(#[.bool s, .slice A n c], 64)] w, fun _ h => by cases h⟩ : Fr w [] w0)
  have sw0 : w0.heap.size = w.heap.size + 1 := by rw [hw0]; exact allocs_size [(#[.bool s, .slice A n c], 64)] w
  rw [← hw0]
  clear hw0
  have a0 := kw00.cell 0
  have a1 := kw00.cell 1
  clear kw00
  refine (rnew_k (k := x) _ (fr.in_ ha) (by omega) (unhide HX)).mono ?_
  rintro e w1 ⟨A1, p, c1, l, rfl, N1, v1, o1, hw⟩
  have fr1 := fr.below hw
  have hnew := below_new w1 (.cells #[.bool (decide (x < 0)), .slice A1 p c1] 64)
  have kG := Blk.new w1 64 #[.bool (decide (x < 0)), .slice A1 p c1]
  have fr2 := fr1.below hnew
  have i1 := o1.toIn.below hnew
  have g0 := kG.cell 0
  have g1 := kG.cell 1
  have hpI := i1.lenI
  have HL := hide i1.len
  have V1 := hide v1
  clear hw kG v1 o1 hnew
  go_wp2_with fail
  obtain ⟨w2, hn2⟩ : ∃ w2, w2 = w1.alloc (.cells #[.bool (decide (x < 0)), .slice A1 p c1] 64) := ⟨_, rfl⟩
  rw [← hn2] at fr2 i1 g0 g1
  rw [← hn2]
  clear hn2
  obtain ⟨G, hg⟩ : ∃ G, G = w1.heap.size := ⟨_, rfl⟩
  rw [← hg] at g0 g1
  rw [← hg]
  clear hg a0 a1
  go_loop [5, 6] (fun sn si => ∃ (k v : Nat), k ≤ p ∧ k ≤ 2 ∧ si = .int .i64 k ∧ sn = .int .u64 v ∧ Hid (v = lo l k) ∧ v < 18446744073709551616) (fun _ si => 2 - (intOf si).toNat)
  case atStart => exact ⟨0, 0, Nat.zero_le _, by omega, rfl, rfl, (by show _ = _; rw [lo_zero]), by omega⟩
  case round =>
    obtain ⟨k, v, hk, hk2, rfl, rfl, hI, hv⟩ := hrel
    by_cases hkp : k < p
    · have hkpi : (k : Int) < (p : Int) := by omega
      obtain ⟨ad, hA, hca⟩ := i1.at_ (k := k) hkp
      have hd := i1.dig k
      subst hA
      by_cases h2 : k = 2
      · have t1 : (1 : Int) < (k : Int) := by omega
        have K : Hid (fitB x = false ∧ toV x = 0) := fit_false (by
          have h1 := N1.pos (by rintro rfl; have h := unhide HL; simp at h; omega)
          have h3 := pw_le (show 2 ≤ l.length - 1 by rw [unhide HL]; omega)
          have h4 : pw 2 = 18446744073709551616 := by rw [pw_two]
          have h5 := unhide V1
          omega)
        clear h2
        go_wp2_with fail
        go_ret2
        rw [(unhide K).1, (unhide K).2]
        exact ⟨rfl, fr2.bel⟩
      · have t1 : ¬ (1 : Int) < (k : Int) := by omega
        by_cases h0 : k = 0
        · subst h0
          have hv0 : v = 0 := by rw [unhide hI, lo_zero]
          subst hv0
          have hor := or_zero1 hd
          simp [Addr.add] at hca
          clear h2
          go_wp2_with fail
          go_round
          case rel => exact ⟨1, dg l 0, by omega, by omega, rfl, rfl, (by show _ = _; rw [lo_succ, lo_zero, pw_zero]; omega), by omega⟩
          case measure => simp [intOf]
        · obtain rfl : k = 1 := by omega
          have hvd : v < 4294967296 := by
            have h := lo_lt i1.dig 1
            rw [← unhide hI, pw_two] at h
            exact h
          have hor := or_join2 hd hvd
          simp [Addr.add] at hca
          clear h2 h0
          go_wp2_with fail
          go_round
          case rel => exact ⟨2, dg l 1 * 4294967296 + v, by omega, by omega, rfl, congrArg (Value.int .u64) (by omega), (by show _ = _; rw [lo_succ, ← unhide hI, show pw 1 = 4294967296 from rfl]; omega), by omega⟩
          case measure => simp [intOf]
    · obtain rfl : k = p := by omega
      have hvx : v = x.natAbs := by rw [unhide hI, lo_all (by rw [unhide HL]; exact Nat.le_refl _), unhide V1]
      have HV := hide hvx
      by_cases hx : x < 0
      · by_cases h : v ≤ 9223372036854775808
        · have t1 : (v : Int) ≤ 9223372036854775808 := by omega
          have K : Hid (fitB x = true ∧ toV x = -(v : Int)) := by
            have e : x = -(v : Int) := by omega
            rw [← e]
            exact fit_true (by omega) (by omega)
          have e1 : IntKind.i64.wrap (IntKind.u64.wrap (0 - (v : Int))) = -(v : Int) := by rw [u64_wrap, IntKind.wrap_i64]; omega
          have e2 : IntKind.i64.wrap (IntKind.u64.wrap (-(v : Int))) = -(v : Int) := by rw [u64_wrap, IntKind.wrap_i64]; omega
          clear hvx h
          go_wp2_with fail
          go_ret2
          rw [(unhide K).1, (unhide K).2]
          exact ⟨rfl, fr2.bel⟩
        · have t1 : ¬ (v : Int) ≤ 9223372036854775808 := by omega
          have K : Hid (fitB x = false ∧ toV x = 0) := fit_false (by omega)
          clear hvx h
          go_wp2_with fail
          go_ret2
          rw [(unhide K).1, (unhide K).2]
          exact ⟨rfl, fr2.bel⟩
      · by_cases h : v < 9223372036854775808
        · have t1 : (v : Int) < 9223372036854775808 := by omega
          have K : Hid (fitB x = true ∧ toV x = (v : Int)) := by
            have e : x = (v : Int) := by omega
            rw [← e]
            exact fit_true (by omega) (by omega)
          have e1 : IntKind.i64.wrap (v : Int) = (v : Int) := IntWalk.i64_in _ (by omega)
          clear hvx h
          go_wp2_with fail
          go_ret2
          rw [(unhide K).1, (unhide K).2]
          exact ⟨rfl, fr2.bel⟩
        · have t1 : ¬ (v : Int) < 9223372036854775808 := by omega
          have K : Hid (fitB x = false ∧ toV x = 0) := fit_false (by omega)
          clear hvx h
          go_wp2_with fail
          go_ret2
          rw [(unhide K).1, (unhide K).2]
          exact ⟨rfl, fr2.bel⟩

section
variable {w : World} {a : SV} {x : Int} {K : Nat} {l : List UInt8}
theorem iformat_m (ia : IsI a x K w) (hK : K ≤ 1073741824) : Calls Tryd.prog 31 #[a.val] w (CallPost w (fun _ : Unit => strOf (fmtI x)) fun _ _ => True) := (iformat_c w ia hK).mono fun _ _ h => h.post
theorem rformat_m (ia : IsI a x K w) (hK : K ≤ 1073741824) : Calls Tryd.prog 36 #[a.val] w (CallPost w (fun _ : Unit => strOf (fmtI x)) fun _ _ => True) := (rformat_c w ia hK).mono fun _ _ h => h.post
theorem ParsePostI.post {e : Ending} {w' : World} (h : ParsePostI w l e w') : CallPost w (fun v : SV => .tuple #[v.val, .int .i64 (parseIE l)]) (fun v u => IsN v (parseIV l) 125 u) e w' := by
  obtain ⟨A, n, c, d, rfl, N, o, i, hb⟩ := h
  exact ⟨⟨decide (parseIV l < 0), A, n, c, d⟩, rfl, hb, fun w'' h1 h2 => ⟨⟨(o.mid h1 h2).toIn, i.2, i.3⟩, N, rfl, (o.mid h1 h2).base (Nat.zero_le _)⟩⟩
theorem iparse_m (h : l.length ≤ 9223372036854775807) : Calls Tryd.prog 39 #[strOf l] w (CallPost w (fun v : SV => .tuple #[v.val, .int .i64 (parseIE l)]) fun v u => IsN v (parseIV l) 125 u) := (iparse_c ⟨l.toArray⟩ h w).mono fun _ _ h => h.post
theorem rparse_m (h : l.length ≤ 9223372036854775807) : Calls Tryd.prog 62 #[strOf l] w (CallPost w (fun v : SV => .tuple #[v.val, .int .i64 (parseIE l)]) fun v u => IsN v (parseIV l) 125 u) := (rparse_c ⟨l.toArray⟩ h w).mono fun _ _ h => h.post
theorem itoInt_m (ia : IsI a x K w) (hK : K ≤ 274877906944) : Calls Tryd.prog 40 #[a.val] w (CallPost w (fun _ : Unit => .tuple #[.int .i64 (toV x), .bool (fitB x)]) fun _ _ => True) := (itoInt_c w ia.inn (Nat.le_trans ia.le hK) ia.zi).mono fun _ _ h => h.post
theorem rtoInt_m (ia : IsI a x K w) (hK : K ≤ 274877906944) : Calls Tryd.prog 63 #[a.val] w (CallPost w (fun _ : Unit => .tuple #[.int .i64 (toV x), .bool (fitB x)]) fun _ _ => True) := (rtoInt_c w ia.inn (Nat.le_trans ia.le hK) ia.zi).mono fun _ _ h => h.post
end

section
variable {w : World} {a b : RV} {K K1 : Nat} {l : List UInt8}
/-! The split at the first slash. -/
def cutL : List UInt8 → List UInt8 × List UInt8 × Bool
  | [] => ([], [], false)
  | b :: l => if b = 47 then ([], l, true) else (b :: (cutL l).1, (cutL l).2.1, (cutL l).2.2)
theorem cutL_none : ∀ {l : List UInt8}, (cutL l).2.2 = false → (cutL l).1 = l ∧ (cutL l).2.1 = []
  | [], _ => ⟨rfl, rfl⟩
  | b :: l, h => by
    unfold cutL at h ⊢
    split at h
    · cases h
    · rename_i hb
      have := cutL_none (l := l) h
      rw [if_neg hb]
      exact ⟨by rw [this.1], this.2⟩
theorem lib_cut : ∀ (l : List UInt8), Lib.cut l [47] = cutL l
  | [] => rfl
  | b :: l => by
    have ih := lib_cut l
    have hge := Lib.index_ge l [47]
    unfold Lib.cut at ih ⊢
    unfold cutL
    rw [Lib.index]
    by_cases hb : b = 47
    · subst hb
      simp
    · have hp : [47].isPrefixOf (b :: l) = false := by
        simp only [List.isPrefixOf, Bool.and_true]
        exact beq_eq_false_iff_ne.2 (Ne.symm hb)
      rw [hp, if_neg hb, ← ih]
      by_cases h1 : Lib.index l [47] = -1
      · rw [h1]; rfl
      · obtain ⟨k, hk⟩ : ∃ k : Nat, Lib.index l [47] = k := ⟨(Lib.index l [47]).toNat, by omega⟩
        rw [hk]
        have e1 : ((k : Int) == -1) = false := beq_eq_false_iff_ne.2 (by omega)
        rw [e1]
        have e2 : ((k : Int) + 1).toNat = k + 1 := by omega
        have e3 : ((k : Int)).toNat = k := by omega
        simp only [Bool.false_eq_true, if_false, if_pos (show (0 : Int) ≤ (k : Int) + 1 by omega), if_pos (show (0 : Int) ≤ (k : Int) by omega), e2, e3, List.take_succ_cons, List.length_singleton, List.drop_succ_cons]
/-- The library's variable that strings.Cut reads. -/
def ML (w : World) : Prop := ∃ m, w.cell? ⟨0, 0, none⟩ = some (.int .i64 m)
theorem ML.below {w w' : World} (h : ML w) (hb : Below w.heap.size w w') : ML w' := by obtain ⟨m, hm⟩ := h; exact ⟨m, keepc hb hm⟩
/-! Whole numbers. -/
def piE (l : List UInt8) : Int := if parseIE l = 0 then (if fitB (parseIV l) then 0 else 6) else parseIE l
def piV (l : List UInt8) : Int := if piE l = 0 then parseIV l else 0
theorem piE_bad (h : parseIE l ≠ 0) : piE l = parseIE l ∧ piV l = 0 := by
  have h1 : piE l = parseIE l := if_neg h
  exact ⟨h1, by unfold piV; rw [if_neg (by rw [h1]; exact h)]⟩
theorem piE_far (h : parseIE l = 0) (h2 : fitB (parseIV l) = false) : piE l = 6 ∧ piV l = 0 := by
  have h1 : piE l = 6 := by unfold piE; rw [if_pos h, h2]; rfl
  exact ⟨h1, by unfold piV; rw [if_neg (by rw [h1]; decide)]⟩
theorem piE_good (h : parseIE l = 0) (h2 : fitB (parseIV l) = true) : piE l = 0 ∧ piV l = parseIV l ∧ toV (parseIV l) = parseIV l := by
  have h1 : piE l = 0 := by unfold piE; rw [if_pos h, h2]; rfl
  exact ⟨h1, by unfold piV; rw [if_pos h1], by unfold toV; rw [h2]; rfl⟩
theorem itoInt_v {v : SV} {x : Int} {B : Bool} (hB : fitB x = B) (ia : IsI v x K w) (hK : K ≤ 274877906944) : Calls Tryd.prog 40 #[v.val] w (CallPost w (fun _ : Unit => .tuple #[.int .i64 (toV x), .bool B]) fun _ _ => True) := by subst hB; exact itoInt_m ia hK
theorem rtoInt_v {v : SV} {x : Int} {B : Bool} (hB : fitB x = B) (ia : IsI v x K w) (hK : K ≤ 274877906944) : Calls Tryd.prog 63 #[v.val] w (CallPost w (fun _ : Unit => .tuple #[.int .i64 (toV x), .bool B]) fun _ _ => True) := by subst hB; exact rtoInt_m ia hK
set_option maxRecDepth 100000 in
set_option maxHeartbeats 1000000 in
theorem xparseInt_m (hL : l.length ≤ 9223372036854775807) : Calls Tryd.prog 24 #[strOf l] w (CallPost w (fun _ : Unit => .tuple #[.int .i64 (piV l), .int .i64 (piE l)]) fun _ _ => True) := by
  by_cases hE : parseIE l = 0
  case neg =>
    obtain ⟨e1, e2⟩ := piE_bad hE
    rw [e1, e2]
    refine Good.enter Tryd.func24 rfl ?_
    refine Good.run (by kernel_rfl) (stop := 1000) 1000 _ ?_
    refine Good.callv (fun w1 hw h => iparse_m hL) (by kernel_rfl) (fun v => ?_)
    refine Good.run (by kernel_rfl) (stop := 1000) 1000 _ ?_
    refine Good.condr (parseIE l != 0) true (by kernel_rfl) (by simpa using hE) ?_
    refine Good.run (by kernel_rfl) (stop := 1000) 1000 _ ?_
    refine Good.ret (v := .tuple #[.int .i64 0, .int .i64 (parseIE l)]) (by kernel_rfl) (fun w1 hw h => ⟨(), rfl, hw, fun _ _ _ => trivial⟩)
  cases hF : fitB (parseIV l)
  · obtain ⟨e1, e2⟩ := piE_far hE hF
    rw [e1, e2]
    refine Good.enter Tryd.func24 rfl ?_
    refine Good.run (by kernel_rfl) (stop := 1000) 1000 _ ?_
    refine Good.callv (fun w1 hw h => iparse_m hL) (by kernel_rfl) (fun v => ?_)
    refine Good.run (by kernel_rfl) (stop := 1000) 1000 _ ?_
    refine Good.condr (parseIE l != 0) false (by kernel_rfl) (by rw [hE]; rfl) ?_
    refine Good.run (by kernel_rfl) (stop := 1000) 1000 _ ?_
    refine Good.callv (fun w1 hw h => itoInt_v hF h.2.i (by decide)) (by kernel_rfl) (fun u => ?_)
    refine Good.run (by kernel_rfl) (stop := 1000) 1000 _ ?_
    refine Good.cond true (by kernel_rfl) ?_
    refine Good.run (by kernel_rfl) (stop := 1000) 1000 _ ?_
    refine Good.ret (v := .tuple #[.int .i64 0, .int .i64 6]) (by kernel_rfl) (fun w1 hw h => ⟨(), rfl, hw, fun _ _ _ => trivial⟩)
  · obtain ⟨e1, e2, e3⟩ := piE_good hE hF
    rw [e1, e2]
    refine Good.enter Tryd.func24 rfl ?_
    refine Good.run (by kernel_rfl) (stop := 1000) 1000 _ ?_
    refine Good.callv (fun w1 hw h => iparse_m hL) (by kernel_rfl) (fun v => ?_)
    refine Good.run (by kernel_rfl) (stop := 1000) 1000 _ ?_
    refine Good.condr (parseIE l != 0) false (by kernel_rfl) (by rw [hE]; rfl) ?_
    refine Good.run (by kernel_rfl) (stop := 1000) 1000 _ ?_
    refine Good.callv (fun w1 hw h => itoInt_v hF h.2.i (by decide)) (by kernel_rfl) (fun u => ?_)
    refine Good.run (by kernel_rfl) (stop := 1000) 1000 _ ?_
    refine Good.cond false (by kernel_rfl) ?_
    refine Good.run (by kernel_rfl) (stop := 1000) 1000 _ ?_
    refine Good.ret (v := .tuple #[.int .i64 (toV (parseIV l)), .int .i64 0]) (by kernel_rfl) (fun w1 hw h => ⟨(), by rw [e3], hw, fun _ _ _ => trivial⟩)
set_option maxRecDepth 100000 in
set_option maxHeartbeats 1000000 in
theorem rparseInt_m (hL : l.length ≤ 9223372036854775807) : Calls Tryd.prog 44 #[strOf l] w (CallPost w (fun _ : Unit => .tuple #[.int .i64 (piV l), .int .i64 (piE l)]) fun _ _ => True) := by
  by_cases hE : parseIE l = 0
  case neg =>
    obtain ⟨e1, e2⟩ := piE_bad hE
    rw [e1, e2]
    refine Good.enter Tryd.func44 rfl ?_
    refine Good.run (by kernel_rfl) (stop := 1000) 1000 _ ?_
    refine Good.callv (fun w1 hw h => rparse_m hL) (by kernel_rfl) (fun v => ?_)
    refine Good.run (by kernel_rfl) (stop := 1000) 1000 _ ?_
    refine Good.condr (parseIE l != 0) true (by kernel_rfl) (by simpa using hE) ?_
    refine Good.run (by kernel_rfl) (stop := 1000) 1000 _ ?_
    refine Good.ret (v := .tuple #[.int .i64 0, .int .i64 (parseIE l)]) (by kernel_rfl) (fun w1 hw h => ⟨(), rfl, hw, fun _ _ _ => trivial⟩)
  cases hF : fitB (parseIV l)
  · obtain ⟨e1, e2⟩ := piE_far hE hF
    rw [e1, e2]
    refine Good.enter Tryd.func44 rfl ?_
    refine Good.run (by kernel_rfl) (stop := 1000) 1000 _ ?_
    refine Good.callv (fun w1 hw h => rparse_m hL) (by kernel_rfl) (fun v => ?_)
    refine Good.run (by kernel_rfl) (stop := 1000) 1000 _ ?_
    refine Good.condr (parseIE l != 0) false (by kernel_rfl) (by rw [hE]; rfl) ?_
    refine Good.run (by kernel_rfl) (stop := 1000) 1000 _ ?_
    refine Good.callv (fun w1 hw h => rtoInt_v hF h.2.i (by decide)) (by kernel_rfl) (fun u => ?_)
    refine Good.run (by kernel_rfl) (stop := 1000) 1000 _ ?_
    refine Good.cond true (by kernel_rfl) ?_
    refine Good.run (by kernel_rfl) (stop := 1000) 1000 _ ?_
    refine Good.ret (v := .tuple #[.int .i64 0, .int .i64 6]) (by kernel_rfl) (fun w1 hw h => ⟨(), rfl, hw, fun _ _ _ => trivial⟩)
  · obtain ⟨e1, e2, e3⟩ := piE_good hE hF
    rw [e1, e2]
    refine Good.enter Tryd.func44 rfl ?_
    refine Good.run (by kernel_rfl) (stop := 1000) 1000 _ ?_
    refine Good.callv (fun w1 hw h => rparse_m hL) (by kernel_rfl) (fun v => ?_)
    refine Good.run (by kernel_rfl) (stop := 1000) 1000 _ ?_
    refine Good.condr (parseIE l != 0) false (by kernel_rfl) (by rw [hE]; rfl) ?_
    refine Good.run (by kernel_rfl) (stop := 1000) 1000 _ ?_
    refine Good.callv (fun w1 hw h => rtoInt_v hF h.2.i (by decide)) (by kernel_rfl) (fun u => ?_)
    refine Good.run (by kernel_rfl) (stop := 1000) 1000 _ ?_
    refine Good.cond false (by kernel_rfl) ?_
    refine Good.run (by kernel_rfl) (stop := 1000) 1000 _ ?_
    refine Good.ret (v := .tuple #[.int .i64 (toV (parseIV l)), .int .i64 0]) (by kernel_rfl) (fun w1 hw h => ⟨(), by rw [e3], hw, fun _ _ _ => trivial⟩)
def prgE (l : List UInt8) (lo hi : Int) : Int := if piE l = 0 then (if piV l < lo ∨ hi < piV l then 6 else 0) else piE l
def prgV (l : List UInt8) (lo hi : Int) : Int := if prgE l lo hi = 0 then piV l else 0
set_option maxRecDepth 100000 in
set_option maxHeartbeats 1000000 in
theorem xformatInt_m {n : Int} (h1 : -9223372036854775808 ≤ n) (h2 : n ≤ 9223372036854775807) : Calls Tryd.prog 18 #[.int .i64 n] w (CallPost w (fun _ : Unit => strOf (fmtI n)) fun _ _ => True) := by
  refine Good.enter Tryd.func18 rfl ?_
  refine Good.run (by kernel_rfl) (stop := 1000) 1000 _ ?_
  refine Good.callv (fun w1 hw h => fromInt_m n w1 h1 h2) (by kernel_rfl) (fun v => ?_)
  refine Good.run (by kernel_rfl) (stop := 1000) 1000 _ ?_
  refine Good.callv (fun w1 hw h => iformat_m h.2.i (by decide)) (by kernel_rfl) (fun u => ?_)
  refine Good.run (by kernel_rfl) (stop := 1000) 1000 _ ?_
  refine Good.ret (v := strOf (fmtI n)) (by kernel_rfl) (fun w1 hw h => ⟨(), rfl, hw, fun _ _ _ => trivial⟩)
set_option maxRecDepth 100000 in
set_option maxHeartbeats 1000000 in
theorem rformatInt_m {n : Int} (h1 : -9223372036854775808 ≤ n) (h2 : n ≤ 9223372036854775807) : Calls Tryd.prog 21 #[.int .i64 n] w (CallPost w (fun _ : Unit => strOf (fmtI n)) fun _ _ => True) := by
  refine Good.enter Tryd.func21 rfl ?_
  refine Good.run (by kernel_rfl) (stop := 1000) 1000 _ ?_
  refine Good.callv (fun w1 hw h => rfromInt_m n w1 h1 h2) (by kernel_rfl) (fun v => ?_)
  refine Good.run (by kernel_rfl) (stop := 1000) 1000 _ ?_
  refine Good.callv (fun w1 hw h => rformat_m h.2.i (by decide)) (by kernel_rfl) (fun u => ?_)
  refine Good.run (by kernel_rfl) (stop := 1000) 1000 _ ?_
  refine Good.ret (v := strOf (fmtI n)) (by kernel_rfl) (fun w1 hw h => ⟨(), rfl, hw, fun _ _ _ => trivial⟩)
end

/-! Operations on strings. -/
section
variable {P : Program} {w : World} {l m : List UInt8} {t : TypeId}
def opS (op : BinOp) (t : TypeId) (x y : Operand) (u v : Value) : Sem Next := (do eqGuard op t x y u v; binOp op t u v) >>= fun v => pure (.value v)
def ixS (t : TypeId) (s : Value) (i : Int) : Sem Next := Instr.index t s (.int .i64 i) >>= fun v => pure (.value v)
def toS (t : TypeId) (s : Value) (i : Int) : Sem Next := Instr.slice t s none (some (.int .i64 i)) none >>= fun v => pure (.value v)
def fromS (t : TypeId) (s : Value) (i : Int) : Sem Next := Instr.slice t s (some (.int .i64 i)) none none >>= fun v => pure (.value v)
theorem run_addP {x y : Operand} (h : l.length + m.length ≤ 9223372036854775807) : (opS .add t x y (strOf l) (strOf m)).run P w = .ok (.value (strOf (l ++ m))) w := by
  have := run_string_add_sum (P := P) w ⟨l.toArray⟩ ⟨m.toArray⟩ (by simpa [ByteArray.size] using h)
  simp only [opS, strOf, eqGuard_add, Sem.run_bind, Sem.run_pure, Result.andThen_ok, binOp_string_add, this]
  rw [ByteArray.mk_append_mk]
theorem run_ixP {i : Nat} {b : UInt8} (ht : P.underlying t = some .string) (h : l[i]? = some b) : (ixS t (strOf l) i).run P w = .ok (.value (.int .u8 b.toNat)) w := by
  obtain ⟨h1, h2⟩ := List.getElem?_eq_some_iff.1 h
  have hs : (0 : Int) ≤ (i : Int) ∧ (i : Int) < ((⟨l.toArray⟩ : ByteArray).size : Nat) := ⟨by omega, by show (i : Int) < ((l.length : Nat) : Int); omega⟩
  simp only [ixS, strOf, Sem.run_bind, run_index_string w t ⟨l.toArray⟩ .i64 i ht, dif_pos hs, Result.andThen_ok, Sem.run_pure]
  have : (⟨l.toArray⟩ : ByteArray)[(i : Int).toNat]'(by omega) = b := h2
  rw [this]
theorem run_toP {i : Nat} (ht : P.underlying t = some .string) (h : i ≤ l.length) : (toS t (strOf l) i).run P w = .ok (.value (strOf (l.take i))) w := by
  have := run_slice_string_h (P := P) w t ⟨l.toArray⟩ ht .i64 i (by omega) (by show (i : Int) ≤ ((l.length : Nat) : Int); omega)
  simp only [toS, strOf, Sem.run_bind, this, Result.andThen_ok, Sem.run_pure, Int.toNat_natCast]
  have e : (⟨l.toArray⟩ : ByteArray).extract 0 i = ⟨(l.take i).toArray⟩ := by
    apply ByteArray.ext
    simp [ByteArray.data_extract]
  rw [e]
theorem run_fromP {i : Nat} (ht : P.underlying t = some .string) (h : i ≤ l.length) : (fromS t (strOf l) i).run P w = .ok (.value (strOf (l.drop i))) w := by
  have := run_slice_string_l (P := P) w t ⟨l.toArray⟩ ht .i64 i (by omega) (by show (i : Int) ≤ ((l.length : Nat) : Int); omega)
  simp only [fromS, strOf, Sem.run_bind, this, Result.andThen_ok, Sem.run_pure, Int.toNat_natCast]
  have e : (⟨l.toArray⟩ : ByteArray).extract i (⟨l.toArray⟩ : ByteArray).size = ⟨(l.drop i).toArray⟩ := by
    apply ByteArray.ext
    simp [ByteArray.data_extract, ByteArray.size, List.take_of_length_le]
  rw [e]
end

/-! The reference's search. -/
theorem cutL_at : ∀ {l : List UInt8} {k : Nat}, (∀ i, i < k → l[i]? ≠ some 47) → l[k]? = some 47 → cutL l = (l.take k, l.drop (k + 1), true)
  | [], k, _, h => by simp at h
  | b :: l, 0, _, h => by
    have hb : b = 47 := by simpa using h
    unfold cutL
    rw [if_pos hb]
    rfl
  | b :: l, k + 1, h1, h2 => by
    have hb : b ≠ 47 := by have := h1 0 (by omega); simpa using this
    have ih := cutL_at (l := l) (k := k) (fun i hi => by have := h1 (i + 1) (by omega); simpa using this) (by simpa using h2)
    unfold cutL
    rw [if_neg hb, ih]
    rfl
theorem cutL_no : ∀ {l : List UInt8}, (∀ i, i < l.length → l[i]? ≠ some 47) → cutL l = (l, [], false)
  | [], _ => rfl
  | b :: l, h => by
    have hb : b ≠ 47 := by have := h 0 (by simp); simpa using this
    have ih := cutL_no (l := l) (fun i hi => by have := h (i + 1) (by simpa using hi); simpa using this)
    unfold cutL
    rw [if_neg hb, ih]
def slI (l : List UInt8) : Int := if (cutL l).2.2 then ((cutL l).1.length : Int) else -1
section
variable {w : World} {l : List UInt8}
end

/-- Reading and writing an integer undo each other. -/
theorem fmtI_parse {l : List UInt8} (h : parseIE l = 0) : fmtI (parseIV l) = l := by
  have h0 : parseE (prest l) = 0 := by
    rcases Classical.em (parseE (prest l) = 0) with e | e
    · exact e
    · have := (parseI_bad e).1; rw [h] at this; exact absurd this.symm e
  by_cases hz : pneg l = true ∧ parseV (prest l) = 0
  · have := (parseI_zero h0 hz.1 hz.2).1
    rw [h] at this; cases this
  · rw [(parseI_good h0 hz).2]
    obtain ⟨h2, h3, _, _⟩ := decS_parse h0
    cases l with
    | nil => rw [pneg_nil.1, pneg_nil.2] at *; rw [fmtI_pos (by simp [zi])]; exact h2
    | cons b t =>
      by_cases e : b = 45
      · subst e
        rw [(pneg_cons_yes t).1, (pneg_cons_yes t).2] at *
        have hv : parseV t ≠ 0 := fun e => hz ⟨rfl, e⟩
        rw [fmtI_neg (by simp [zi]; omega), zi_abs, h2]
      · rw [(pneg_cons_no e).1, (pneg_cons_no e).2] at *
        rw [fmtI_pos (by simp [zi]), zi_abs, h2]
theorem parse_fmtI {x : Int} (h : (decS x.natAbs).length ≤ 1000) : parseIE (fmtI x) = 0 ∧ parseIV (fmtI x) = x := by
  obtain ⟨h1, h2⟩ := parse_decS h
  by_cases hx : x < 0
  · rw [fmtI_neg hx]
    have hz : ¬ (pneg (45 :: decS x.natAbs) = true ∧ parseV (prest (45 :: decS x.natAbs)) = 0) := by
      rintro ⟨_, h3⟩
      rw [(pneg_cons_yes _).2, h2] at h3; omega
    have hg := parseI_good (by rw [(pneg_cons_yes _).2]; exact h1) hz
    refine ⟨hg.1, ?_⟩
    rw [hg.2, (pneg_cons_yes _).1, (pneg_cons_yes _).2, h2]
    simp [zi]; omega
  · rw [fmtI_pos hx]
    have hp : pneg (decS x.natAbs) = false ∧ prest (decS x.natAbs) = decS x.natAbs := by
      cases hc : decS x.natAbs with
      | nil => exact pneg_nil
      | cons b t =>
        refine pneg_cons_no ?_
        rintro rfl
        have := decS_isD x.natAbs 45 (by rw [hc]; exact List.mem_cons_self ..)
        simp at this
    have hg := parseI_good (l := decS x.natAbs) (by rw [hp.2]; exact h1) (by rintro ⟨h3, _⟩; rw [hp.1] at h3; cases h3)
    refine ⟨hg.1, ?_⟩
    rw [hg.2, hp.1, hp.2, h2]
    simp [zi]; omega


theorem fmtI_len {x : Int} {k : Nat} (hk : 1 ≤ k) (h : x.natAbs < pw k) : (fmtI x).length ≤ 10 * k + 1 := by
  have := decS_len hk h
  unfold fmtI
  split
  · rw [List.length_cons]; omega
  · omega
theorem fmtI_inj {x y : Int} {k : Nat} (hk : 1 ≤ k ∧ k ≤ 100) (hx : x.natAbs < pw k) (hy : y.natAbs < pw k) (h : fmtI x = fmtI y) : x = y := by
  have h1 := decS_len hk.1 hx
  have h2 := decS_len hk.1 hy
  rw [← (parse_fmtI (x := x) (by omega)).2, h, (parse_fmtI (x := y) (by omega)).2]
theorem fmtI_one : fmtI 1 = [49] := by decide +kernel
theorem fmtI_one_of {d : Nat} (h : fmtI (d : Int) = [49]) : d = 1 := by
  have h1 : decS ((d : Int)).natAbs = [49] := by rw [← fmtI_pos (by omega : ¬ (d : Int) < 0)]; exact h
  have h2 := (parse_fmtI (x := (d : Int)) (by rw [h1]; decide)).2
  have h3 := (parse_fmtI (x := 1) (by decide +kernel)).2
  rw [fmtI_one] at h3
  rw [h, h3] at h2
  omega
/-- The text of a fraction. -/
def fmtQ (q : Rat) : List UInt8 := if q.den = 1 then fmtI q.num else fmtI q.num ++ 47 :: fmtI q.den
section
variable {w : World} {a b : RV} {q p : Rat} {K K1 : Nat} {l : List UInt8}
theorem mk_toList (x : List UInt8) : (⟨x.toArray⟩ : ByteArray).toList = x := ByteArray.toList_mk x
/-! Reading a fraction. -/
def pqN (l : List UInt8) : Int := parseIV (cutL l).1
def pqD (l : List UInt8) : Int := if (cutL l).2.2 then parseIV (cutL l).2.1 else 1
def pqE (l : List UInt8) : Int :=
  if parseIE (cutL l).1 = 0 then
    if (cutL l).2.2 = true ∧ parseIE (cutL l).2.1 ≠ 0 then parseIE (cutL l).2.1
    else if (cutL l).2.2 = true ∧ pqD l < 2 then 3
    else if (Rat.divInt (pqN l) (pqD l)).num = pqN l ∧ ((Rat.divInt (pqN l) (pqD l)).den : Int) = pqD l then 0 else 3
  else parseIE (cutL l).1
def pqV (l : List UInt8) : Rat := Rat.divInt (pqN l) (pqD l)
def OutQ (r : RV) (e : Int) (q : Rat) (K : Nat) (u : World) : Prop := if e = 0 then IsQN r q K u else r = RV0
theorem outQ0 {e : Int} (h : e ≠ 0) : OutQ RV0 e q K w := by unfold OutQ; rw [if_neg h]
theorem outQn {r : RV} {e : Int} (h : e = 0) (k : IsQN r q K w) : OutQ r e q K w := by unfold OutQ; rw [if_pos h]; exact k
theorem OutQ.n {r : RV} {e : Int} (k : OutQ r e q K w) (h : e = 0) : IsQN r q K w := by unfold OutQ at k; rw [if_pos h] at k; exact k
theorem OutQ.z {r : RV} {e : Int} (k : OutQ r e q K w) (h : e ≠ 0) : r = RV0 := by unfold OutQ at k; rw [if_neg h] at k; exact k
theorem cutL_len : ∀ (l : List UInt8), (cutL l).1.length ≤ l.length ∧ (cutL l).2.1.length ≤ l.length
  | [] => ⟨Nat.le_refl _, Nat.le_refl _⟩
  | b :: l => by
    have := cutL_len l
    unfold cutL
    split
    · simp
    · simp only [List.length_cons]; omega
end

section
variable {w : World} {r : RV} {K K1 : Nat} {l : List UInt8}
theorem parse_one : parseIE [49] = 0 ∧ parseIV [49] = 1 := by
  have h3 := parse_fmtI (x := 1) (by decide +kernel)
  rw [fmtI_one] at h3
  exact h3
theorem sliceAtS {P : Program} {t : TypeId} {s : Value} {lo hi mx : Option Value} (ht : P.underlying t = some .string) : (Instr.sliceAt t s lo hi mx).run P w = (Instr.slice t s lo hi mx).run P w := run_sliceAt_string w t s lo hi mx ht
def toA (t : TypeId) (s : Value) (i : Int) : Sem Next := Instr.sliceAt t s none (some (.int .i64 i)) none >>= fun v => pure (.value v)
def fromA (t : TypeId) (s : Value) (i : Int) : Sem Next := Instr.sliceAt t s (some (.int .i64 i)) none none >>= fun v => pure (.value v)
theorem run_toA {P : Program} {t : TypeId} {i : Nat} (ht : P.underlying t = some .string) (h : i ≤ l.length) : (toA t (strOf l) i).run P w = .ok (.value (strOf (l.take i))) w := by
  have := run_toP (w := w) ht h
  simp only [toA, toS, Sem.run_bind, sliceAtS ht] at this ⊢
  exact this
theorem run_fromA {P : Program} {t : TypeId} {i : Nat} (ht : P.underlying t = some .string) (h : i ≤ l.length) : (fromA t (strOf l) i).run P w = .ok (.value (strOf (l.drop i))) w := by
  have := run_fromP (w := w) ht h
  simp only [fromA, fromS, Sem.run_bind, sliceAtS ht] at this ⊢
  exact this
theorem isnQ_d {x y : Int} (hx : IsN r.a x K w) (hy : IsN r.b y K1 w) (h : y ≠ 0) : isnQ r x y = decide ((Rat.divInt x y).num = x ∧ ((Rat.divInt x y).den : Int) = y) := by
  unfold isnQ
  rw [isn_n2 hx, isn_n2 hy, decide_eq_true h, Bool.true_and, Bool.true_and, Bool.true_and]
  have e1 : decide (x = (Rat.divInt x y).num) = decide ((Rat.divInt x y).num = x) := decide_eq_decide.2 eq_comm
  have e2 : decide (y = ((Rat.divInt x y).den : Int)) = decide (((Rat.divInt x y).den : Int) = y) := decide_eq_decide.2 eq_comm
  rw [e1, e2, Bool.decide_and]
theorem qn_of {x y : Int} (h : (Rat.divInt x y).num = x ∧ ((Rat.divInt x y).den : Int) = y) (hx : IsN r.a x K w) (hy : IsN r.b y K w) : IsQN r (Rat.divInt x y) K w := ⟨hx.cast h.1.symm, hy.cast h.2.symm⟩
theorem pq_e1 (h : parseIE (cutL l).1 ≠ 0) : pqE l = parseIE (cutL l).1 := if_neg h
theorem pq_e2 (h : parseIE (cutL l).1 = 0) (h2 : (cutL l).2.2 = true) (h3 : parseIE (cutL l).2.1 ≠ 0) : pqE l = parseIE (cutL l).2.1 := by unfold pqE; rw [if_pos h, if_pos ⟨h2, h3⟩]
theorem pq_e3 (h : parseIE (cutL l).1 = 0) (h2 : (cutL l).2.2 = true) (h3 : parseIE (cutL l).2.1 = 0) (h4 : parseIV (cutL l).2.1 < 2) : pqE l = 3 := by
  unfold pqE pqD; rw [if_pos h, if_neg (fun q => q.2 h3), if_pos h2, if_pos ⟨h2, h4⟩]
theorem pq_e4 (h : parseIE (cutL l).1 = 0) (h2 : (cutL l).2.2 = true → parseIE (cutL l).2.1 = 0 ∧ 2 ≤ pqD l) : pqE l = if (Rat.divInt (pqN l) (pqD l)).num = pqN l ∧ ((Rat.divInt (pqN l) (pqD l)).den : Int) = pqD l then 0 else 3 := by
  unfold pqE; rw [if_pos h, if_neg (fun q => q.2 (h2 q.1).1), if_neg (fun q => by have := (h2 q.1).2; omega)]
theorem rparse_v {e : Int} (hE : parseIE l = e) (hL : l.length ≤ 9223372036854775807) : Calls Tryd.prog 62 #[strOf l] w (CallPost w (fun v : SV => .tuple #[v.val, .int .i64 e]) fun v u => IsN v (parseIV l) 125 u) := by subst hE; exact rparse_m hL
theorem cutL_yes : ∀ {l : List UInt8}, (cutL l).2.2 = true → (cutL l).1.length < l.length ∧ l.take (cutL l).1.length = (cutL l).1 ∧ l.drop ((cutL l).1.length + 1) = (cutL l).2.1
  | [], h => by cases h
  | b :: l, h => by
    unfold cutL at h ⊢
    split at h
    · rename_i hb
      rw [if_pos hb]
      simp
    · rename_i hb
      rw [if_neg hb]
      have := cutL_yes (l := l) h
      simp only [List.length_cons, List.take_succ_cons, List.drop_succ_cons]
      exact ⟨by omega, by rw [this.2.1], this.2.2⟩
theorem sgn_eq (x y : Int) : (sgn (x - y) != 0) = decide (x ≠ y) := by
  show (!(sgn (x - y) == 0)) = _
  rw [sgn_zero]
  by_cases h : x = y
  · rw [decide_eq_true (by omega), decide_eq_false (by simpa using h)]; rfl
  · rw [decide_eq_false (by omega), decide_eq_true h]; rfl
end

end Go.Proofs.YtlpnjoenkohadaaDoor
