/-
  Walks: the law of text.
-/
import Derived.Test.YtklohficlfnjfaaLb
import Derived.Test.YtklohficlfnjfaaRf
import Derived.Test.YtklohficlfnjfaaRg
namespace Go.Proofs.Ytklohficlfnjfaa
set_option linter.unusedVariables false
set_option linter.unusedSimpArgs false
open Go.RowKit

set_option maxRecDepth 100000 in
set_option maxHeartbeats 8000000 in
theorem lawText {A : Option Addr} {n c : Nat} {l : List Nat} (s : ByteArray) (hs : s.size ≤ 9223372036854775807) (w : World) (ia : In w A n c l) :
    Calls Try.prog 4 #[.slice A n c, .string s] w fun e w' => e = .returned (.bool true) ∧ Below w.heap.size w w' := by
  have hb := Below.refl w.heap.size w
  have hn := ia.lenI
  by_cases ba : n ≤ 100
  · by_cases bs : s.size ≤ 1100
    · have t1 : ¬ (100 : Int) < (n : Int) := by omega
      have t2 : ¬ (1100 : Int) < (s.size : Int) := by omega
      go_enter Try.func4, Try.ntmps4
      go_wp2_with fail
      refine (parse_c s hs _).mono ?_
      rintro e w1 ⟨Am, nm, cm, dm, rfl, Nm, vm, om, hw⟩
      replace ia := ia.below hw
      replace hb := hb.trans (hw.mono hb.size)
      have im := om.toIn
      clear om hw
      obtain ⟨pe, hpe⟩ : ∃ pe, pe = parseE s.data.toList := ⟨_, rfl⟩
      rw [← hpe]
      go_wp2_with fail
      refine (refParse_c s hs _).mono ?_
      rintro e w2 ⟨Ax, nx, cx, dx, rfl, Nx, vx, ox, hw⟩
      rw [← hpe]
      replace ia := ia.below hw
      replace im := im.below hw
      replace hb := hb.trans (hw.mono hb.size)
      have ix := ox.toIn
      have HX : Hid (dm = dx) := Nm.unique Nx (by rw [vm, vx])
      clear ox hw hpe vm vx
      go_wp2_with fail
      refine (format_c _ ia (by omega)).mono ?_
      rintro e w3 ⟨rfl, hw⟩
      replace ia := ia.below hw
      replace im := im.below hw
      replace ix := ix.below hw
      replace hb := hb.trans (hw.mono hb.size)
      clear hw
      obtain ⟨ss, hss⟩ : ∃ ss : ByteArray, strOf (decS (val l)) = .string ss := ⟨_, rfl⟩
      rw [hss]
      go_wp2_with fail
      refine (refFormat_c _ ia (by omega)).mono ?_
      rintro e w4 ⟨rfl, hw⟩
      replace im := im.below hw
      replace ix := ix.below hw
      replace hb := hb.trans (hw.mono hb.size)
      rw [hss]
      clear hw hss
      go_wp2_with fail
      refine (same_t _ im ix (unhide HX)).mono ?_
      rintro e w5 ⟨rfl, hq⟩
      replace hb := hb.trans (hq.below _)
      clear hq
      go_wp2_with fail
      refine (example_c _).mono ?_
      rintro e w6 ⟨rfl, hw⟩
      replace hb := hb.trans (hw.mono hb.size)
      go_wp2_with fail
      go_ret
      exact ⟨rfl, hb⟩
    · have t1 : ¬ (100 : Int) < (n : Int) := by omega
      have t2 : (1100 : Int) < (s.size : Int) := by omega
      go_enter Try.func4, Try.ntmps4
      go_wp2_with fail
      refine (example_c w).mono ?_
      rintro e w1 ⟨rfl, hw⟩
      go_wp2_with fail
      go_ret
      exact ⟨rfl, hw⟩
  · have t1 : (100 : Int) < (n : Int) := by omega
    go_enter Try.func4, Try.ntmps4
    go_wp2_with fail
    refine (example_c w).mono ?_
    rintro e w1 ⟨rfl, hw⟩
    go_wp2_with fail
    go_ret
    exact ⟨rfl, hw⟩
end Go.Proofs.Ytklohficlfnjfaa
