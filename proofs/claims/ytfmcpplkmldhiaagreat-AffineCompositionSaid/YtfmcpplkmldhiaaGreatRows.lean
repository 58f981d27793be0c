/-
  No cell of these rows narrows 'for every input' (looked for: loops, veiled, ifaces, maps, wideKeys, modest, calm, conditions, laid).
  DERIVED. THE GIVEN ROWS OF THIS SEAT. 5 by the template 'for every input the law returns true; each argument reads behind the call as it read before'; 0 by the template 'total and deterministic' (their statements: YtfmcpplkmldhiaaGreatTotals.lean).
  GIVEN WITH THE SEED: the statements are not yours to turn. If you find one false, say at which input.
  Laid BY PROGRAM, IN A SANDBOX (cutbox-rows.mjs): the forced cells as the released guide's own fill.sh prints them over the translation be1f01192315e58f… (all of the seat's roots in one cut). By AI agents, Wed Nov 11 2026. No macro, syntax, notation, axiom, sorry.
-/
import Derived.Test.YtfmcpplkmldhiaaGreatChecked
import GoSem.Claim
import GoSem.ClaimJoined
import GoSem.ClaimMapViews
import Derived.JoinedTies
import Derived.KernelRfl
namespace Go.Proofs.YtfmcpplkmldhiaaGreat
/- THE CELL 'sum', in the pinned program and in every row, IS THE sha256 OF THE DUMP (.gsa) THAT YtfmcpplkmldhiaaGreatProg.lean LOADS. Nothing in Lean hashes anything: it is a label: what it is worth is what the hold of that sum in a sandbox is worth. -/
noncomputable def Tryz.pinned : Pinned := { name := "ytfmcpplkmldhiaagreat", sum := "be1f01192315e58f1ac8763235ddb81e073480b53c54c410c63e14462223385f", checked := Tryz.checked }
namespace Rows
def none {H : Type} : Left H := { results := [], args := [] }

/-- 'grisaillelaw12.AffineProperties': WHATEVER THE INPUT: true; the input reads as it did. -/
def affinePropertiesSpec : ChangeSpec := { name := "affineProperties", fn := fun _ => fun
  | [d1, d2] => { results := [.lit (.bool true)], args := [d1, d2] }
  | _ => none }
def affinePropertiesRow : OpenClaim := { program := "ytfmcpplkmldhiaagreat", sum := "be1f01192315e58f1ac8763235ddb81e073480b53c54c410c63e14462223385f", func := "grisaille/grisaillelaw12.AffineProperties", spec := "affineProperties", unfollowed := true, recurses := true, apart := false }
def AffinePropertiesSaid : Prop := affinePropertiesRow.holds Tryz.pinned (OpenSpec.ofChange affinePropertiesSpec)

/-- ITS FALSE NEIGHBOUR: 'it returns false'. Refute it at one input. -/
def affinePropertiesWrong : ChangeSpec := { name := "affineProperties", fn := fun _ => fun
  | [d1, d2] => { results := [.lit (.bool false)], args := [d1, d2] }
  | _ => none }
def AffinePropertiesWrongFalsely : Prop := affinePropertiesRow.holds Tryz.pinned (OpenSpec.ofChange affinePropertiesWrong)

/-- 'grisaillelaw12.AffineComposition': WHATEVER THE INPUT: true; the input reads as it did. -/
def affineCompositionSpec : ChangeSpec := { name := "affineComposition", fn := fun _ => fun
  | [d] => { results := [.lit (.bool true)], args := [d] }
  | _ => none }
def affineCompositionRow : OpenClaim := { program := "ytfmcpplkmldhiaagreat", sum := "be1f01192315e58f1ac8763235ddb81e073480b53c54c410c63e14462223385f", func := "grisaille/grisaillelaw12.AffineComposition", spec := "affineComposition", unfollowed := true, recurses := true, apart := false }
def AffineCompositionSaid : Prop := affineCompositionRow.holds Tryz.pinned (OpenSpec.ofChange affineCompositionSpec)

/-- ITS FALSE NEIGHBOUR: 'it returns false'. Refute it at one input. -/
def affineCompositionWrong : ChangeSpec := { name := "affineComposition", fn := fun _ => fun
  | [d] => { results := [.lit (.bool false)], args := [d] }
  | _ => none }
def AffineCompositionWrongFalsely : Prop := affineCompositionRow.holds Tryz.pinned (OpenSpec.ofChange affineCompositionWrong)

/-- 'grisaillelaw12.AffineDecompose': WHATEVER THE INPUT: true; the input reads as it did. -/
def affineDecomposeSpec : ChangeSpec := { name := "affineDecompose", fn := fun _ => fun
  | [d] => { results := [.lit (.bool true)], args := [d] }
  | _ => none }
def affineDecomposeRow : OpenClaim := { program := "ytfmcpplkmldhiaagreat", sum := "be1f01192315e58f1ac8763235ddb81e073480b53c54c410c63e14462223385f", func := "grisaille/grisaillelaw12.AffineDecompose", spec := "affineDecompose", unfollowed := true, recurses := true, apart := false }
def AffineDecomposeSaid : Prop := affineDecomposeRow.holds Tryz.pinned (OpenSpec.ofChange affineDecomposeSpec)

/-- ITS FALSE NEIGHBOUR: 'it returns false'. Refute it at one input. -/
def affineDecomposeWrong : ChangeSpec := { name := "affineDecompose", fn := fun _ => fun
  | [d] => { results := [.lit (.bool false)], args := [d] }
  | _ => none }
def AffineDecomposeWrongFalsely : Prop := affineDecomposeRow.holds Tryz.pinned (OpenSpec.ofChange affineDecomposeWrong)

/-- 'grisaillelaw12.AffineInvert': WHATEVER THE INPUT: true; the input reads as it did. -/
def affineInvertSpec : ChangeSpec := { name := "affineInvert", fn := fun _ => fun
  | [d] => { results := [.lit (.bool true)], args := [d] }
  | _ => none }
def affineInvertRow : OpenClaim := { program := "ytfmcpplkmldhiaagreat", sum := "be1f01192315e58f1ac8763235ddb81e073480b53c54c410c63e14462223385f", func := "grisaille/grisaillelaw12.AffineInvert", spec := "affineInvert", unfollowed := true, recurses := true, apart := false }
def AffineInvertSaid : Prop := affineInvertRow.holds Tryz.pinned (OpenSpec.ofChange affineInvertSpec)

/-- ITS FALSE NEIGHBOUR: 'it returns false'. Refute it at one input. -/
def affineInvertWrong : ChangeSpec := { name := "affineInvert", fn := fun _ => fun
  | [d] => { results := [.lit (.bool false)], args := [d] }
  | _ => none }
def AffineInvertWrongFalsely : Prop := affineInvertRow.holds Tryz.pinned (OpenSpec.ofChange affineInvertWrong)

/-- 'grisaillelaw12.AffineTriangles': WHATEVER THE INPUT: true; the input reads as it did. -/
def affineTrianglesSpec : ChangeSpec := { name := "affineTriangles", fn := fun _ => fun
  | [d1, d2] => { results := [.lit (.bool true)], args := [d1, d2] }
  | _ => none }
def affineTrianglesRow : OpenClaim := { program := "ytfmcpplkmldhiaagreat", sum := "be1f01192315e58f1ac8763235ddb81e073480b53c54c410c63e14462223385f", func := "grisaille/grisaillelaw12.AffineTriangles", spec := "affineTriangles", unfollowed := true, recurses := true, apart := false }
def AffineTrianglesSaid : Prop := affineTrianglesRow.holds Tryz.pinned (OpenSpec.ofChange affineTrianglesSpec)

/-- ITS FALSE NEIGHBOUR: 'it returns false'. Refute it at one input. -/
def affineTrianglesWrong : ChangeSpec := { name := "affineTriangles", fn := fun _ => fun
  | [d1, d2] => { results := [.lit (.bool false)], args := [d1, d2] }
  | _ => none }
def AffineTrianglesWrongFalsely : Prop := affineTrianglesRow.holds Tryz.pinned (OpenSpec.ofChange affineTrianglesWrong)

/- THE SECOND FORM. 'bulk': how many values and letters a reading holds, each counted each time it is reached (what is shared counts as often as it is met; a slice's spare places count too). A statement '..UptoSaid' is the law's where the arguments, and the package variables that the reading takes, are together of bulk at most 1048576: NARROWER than '..Said'. Prove '..Said' where nothing that the law and all that it calls make is longer than what came in: it says more and counts as full. Else prove '..UptoSaid'. A law counts once. -/
mutual
def uptoBulk {H : Type} : DataW H → Nat
  | .lit (.string bytes) => bytes.length + 1
  | .lit _ => 1
  | .nil => 1
  | .ptr d => uptoBulk d + 1
  | .slice elems spare => uptoBulkAll elems + uptoBulkAll spare + 1
  | .agg parts => uptoBulkAll parts + 1
  | .iface _ d => uptoBulk d + 1
  | .map entries => uptoBulkEntries entries + 1
  | .held _ => 1
def uptoBulkAll {H : Type} : List (DataW H) → Nat
  | [] => 0
  | d :: r => uptoBulk d + uptoBulkAll r
def uptoBulkEntries {H : Type} : List (Lit × DataW H) → Nat
  | [] => 0
  | x :: r => uptoBulkEntry x + uptoBulkEntries r
def uptoBulkEntry {H : Type} : Lit × DataW H → Nat
  | (.string bytes, d) => bytes.length + uptoBulk d + 1
  | (_, d) => uptoBulk d + 1
 end
def uptoSmall : (H : Type) → List (DataW H) → Bool := fun _ ds => decide (uptoBulkAll ds ≤ 1048576)
def OpenSpec.upto (s : _root_.Go.ChangeSpec) : _root_.Go.OpenSpec := { _root_.Go.OpenSpec.ofChange s with cond := some uptoSmall }

/-- 'grisaillelaw12.AffineProperties', WHERE WHAT IT READS IS OF BULK AT MOST 1048576: true; the input reads as it did. -/
def affinePropertiesUptoRow : OpenClaim := { program := "ytfmcpplkmldhiaagreat", sum := "be1f01192315e58f1ac8763235ddb81e073480b53c54c410c63e14462223385f", func := "grisaille/grisaillelaw12.AffineProperties", spec := "affineProperties", unfollowed := true, recurses := true, apart := false, narrowed := true }
def AffinePropertiesUptoSaid : Prop := affinePropertiesUptoRow.holds Tryz.pinned (OpenSpec.upto affinePropertiesSpec)

/-- 'grisaillelaw12.AffineComposition', WHERE WHAT IT READS IS OF BULK AT MOST 1048576: true; the input reads as it did. -/
def affineCompositionUptoRow : OpenClaim := { program := "ytfmcpplkmldhiaagreat", sum := "be1f01192315e58f1ac8763235ddb81e073480b53c54c410c63e14462223385f", func := "grisaille/grisaillelaw12.AffineComposition", spec := "affineComposition", unfollowed := true, recurses := true, apart := false, narrowed := true }
def AffineCompositionUptoSaid : Prop := affineCompositionUptoRow.holds Tryz.pinned (OpenSpec.upto affineCompositionSpec)

/-- 'grisaillelaw12.AffineDecompose', WHERE WHAT IT READS IS OF BULK AT MOST 1048576: true; the input reads as it did. -/
def affineDecomposeUptoRow : OpenClaim := { program := "ytfmcpplkmldhiaagreat", sum := "be1f01192315e58f1ac8763235ddb81e073480b53c54c410c63e14462223385f", func := "grisaille/grisaillelaw12.AffineDecompose", spec := "affineDecompose", unfollowed := true, recurses := true, apart := false, narrowed := true }
def AffineDecomposeUptoSaid : Prop := affineDecomposeUptoRow.holds Tryz.pinned (OpenSpec.upto affineDecomposeSpec)

/-- 'grisaillelaw12.AffineInvert', WHERE WHAT IT READS IS OF BULK AT MOST 1048576: true; the input reads as it did. -/
def affineInvertUptoRow : OpenClaim := { program := "ytfmcpplkmldhiaagreat", sum := "be1f01192315e58f1ac8763235ddb81e073480b53c54c410c63e14462223385f", func := "grisaille/grisaillelaw12.AffineInvert", spec := "affineInvert", unfollowed := true, recurses := true, apart := false, narrowed := true }
def AffineInvertUptoSaid : Prop := affineInvertUptoRow.holds Tryz.pinned (OpenSpec.upto affineInvertSpec)

/-- 'grisaillelaw12.AffineTriangles', WHERE WHAT IT READS IS OF BULK AT MOST 1048576: true; the input reads as it did. -/
def affineTrianglesUptoRow : OpenClaim := { program := "ytfmcpplkmldhiaagreat", sum := "be1f01192315e58f1ac8763235ddb81e073480b53c54c410c63e14462223385f", func := "grisaille/grisaillelaw12.AffineTriangles", spec := "affineTriangles", unfollowed := true, recurses := true, apart := false, narrowed := true }
def AffineTrianglesUptoSaid : Prop := affineTrianglesUptoRow.holds Tryz.pinned (OpenSpec.upto affineTrianglesSpec)

end Rows
end Go.Proofs.YtfmcpplkmldhiaaGreat
