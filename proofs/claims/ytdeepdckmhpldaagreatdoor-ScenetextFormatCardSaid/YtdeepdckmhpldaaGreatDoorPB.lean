/-
 Paints as text: the reference's reader.
-/
import Derived.Test.YtdeepdckmhpldaaGreatDoorYX
namespace Go.Proofs.YtdeepdckmhpldaaGreatDoor
set_option maxRecDepth 100000
set_option maxHeartbeats 8000000
set_option linter.unusedVariables false
set_option linter.unusedSimpArgs false
open Go.RowKit
section
open Go.RowKit
--ATNAMES
end
section
open Go.RowKit
--ATNAMES
end
section
open Go.RowKit
--ATNAMES
section
variable {w : World} {A A2 : Option Addr} {n c n2 c2 : Nat} {ws l : WS} {x : RSt} {m k : Int} {B : Bool}
theorem size_v (hB : Vz m k = B) : Calls Tryz.prog 244 #[.int .i64 m, .int .i64 k] w (K5 w (fun _ : Unit => .bool B) fun _ _ => True) := by
 refine K0.enter Tryz.func244 rfl ?_
 refine ZS 3 ?_
 by_cases h0 : 1 ≤ m
 case neg =>
  refine ZT 7 (.bool (decide (m ≥ 1))) (.bool false) (by rw [decide_eq_false Zo]) ?_
  exact ZX (.bool false) (by rw [← hB]; unfold Vz; rw [decide_eq_false Zo])
 refine K0.slot 7 (.bool (decide (m ≥ 1))) (.bool true) Zk (by rw [decide_eq_true Zo]) ?_
 refine ZS 7 ?_
 by_cases h1 : m ≤ 4096
 case neg =>
  refine ZT 11 (.bool (decide (m ≤ 4096))) (.bool false) (by rw [decide_eq_false Zo]) ?_
  exact ZX (.bool false) (by rw [← hB]; unfold Vz; rw [decide_eq_false Zo])
 refine K0.slot 11 (.bool (decide (m ≤ 4096))) (.bool true) Zk (by rw [decide_eq_true Zo]) ?_
 refine ZS 11 ?_
 by_cases h2 : 1 ≤ k
 case neg =>
  refine ZT 15 (.bool (decide (k ≥ 1))) (.bool false) (by rw [decide_eq_false Zo]) ?_
  exact ZX (.bool false) (by rw [← hB]; unfold Vz; rw [decide_eq_false Zo])
 refine K0.slot 15 (.bool (decide (k ≥ 1))) (.bool true) Zk (by rw [decide_eq_true Zo]) ?_
 refine ZS 15 ?_
 by_cases h3 : k ≤ 4096
 case neg =>
  refine ZT 19 (.bool (decide (k ≤ 4096))) (.bool false) (by rw [decide_eq_false Zo]) ?_
  exact ZX (.bool false) (by rw [← hB]; unfold Vz; rw [decide_eq_false Zo])
 refine ZT 19 (.bool (decide (k ≤ 4096))) (.bool true) (by rw [decide_eq_true Zo]) ?_
 refine ZV (.bool (decide (IntKind.i64.wrap (m * k) ≤ 65536))) (fun w1 hw h => ⟨(), by rw [← hB, Yf ⟨h0, h1⟩ ⟨h2, h3⟩]; unfold Vz; congr 2; exact decide_eq_decide.2 ⟨fun h => ⟨h0, h1, h2, h3, h⟩, fun h => h.2.2.2.2⟩, hw, fun _ _ _ => trivial⟩)
end
end
section
open Go.RowKit
--ATNAMES
section
variable {w : World} {A A2 : Option Addr} {n c n2 c2 : Nat} {ws l : WS} {x : RSt}
theorem spreads_m : Calls Tryz.prog 90 #[] w (K5 w (fun y : Nat => .slice (some ⟨y, 0, none⟩) 4 4) fun y u => Kj u (some ⟨y, 0, none⟩) 4 Mp) := by
 refine K0.enter Tryz.func90 rfl ?_
 refine ZR ?_
 refine K0.make (Ks (64) 4 #[(0, K3 [110, 111, 110, 101]), (1, K3 [112, 97, 100]), (2, K3 [114, 101, 112, 101, 97, 116]), (3, K3 [114, 101, 102, 108, 101, 99, 116])]) (Kb 4) (Kp 9 #[K3 [110, 111, 110, 101], K3 [112, 97, 100], K3 [114, 101, 112, 101, 97, 116], K3 [114, 101, 102, 108, 101, 99, 116]]) Zk (fun w1 hw h => K8 Zk) (fun y => ?_)
 refine ZR ?_
 refine ZV (.slice (some ⟨y, 0, none⟩) 4 4) (fun w1 hw h => ⟨y, rfl, hw, fun w'' k1 k2 => L3 (h w'' k1 k2).2 rfl⟩)
theorem samplings_m : Calls Tryz.prog 84 #[] w (K5 w (fun y : Nat => .slice (some ⟨y, 0, none⟩) 3 3) fun y u => Kj u (some ⟨y, 0, none⟩) 3 ([] :: P5)) := by
 refine K0.enter Tryz.func84 rfl ?_
 refine ZR ?_
 refine K0.make (Ks (64) 3 #[(0, K3 []), (1, K3 [110, 101, 97, 114, 101, 115, 116]), (2, K3 [98, 105, 108, 105, 110, 101, 97, 114])]) (Kb 3) (Kp 9 #[K3 [], K3 [110, 101, 97, 114, 101, 115, 116], K3 [98, 105, 108, 105, 110, 101, 97, 114]]) Zk (fun w1 hw h => K8 Zk) (fun y => ?_)
 refine ZR ?_
 refine ZV (.slice (some ⟨y, 0, none⟩) 3 3) (fun w1 hw h => ⟨y, rfl, hw, fun w'' k1 k2 => L3 (h w'' k1 k2).2 rfl⟩)
end
end
end Go.Proofs.YtdeepdckmhpldaaGreatDoor
