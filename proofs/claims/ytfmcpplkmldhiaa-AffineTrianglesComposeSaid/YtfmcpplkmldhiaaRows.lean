/-
  No cell of these rows narrows 'for every input' (looked for: loops, veiled, ifaces, maps, wideKeys, modest, calm, conditions, laid).
  DERIVED. THE GIVEN ROWS OF THIS SEAT. 6 by the template 'for every input the law returns true; each argument reads behind the call as it read before'; 0 by the template 'total and deterministic' (their statements: YtfmcpplkmldhiaaTotals.lean).
  GIVEN WITH THE SEED: the statements are not yours to turn. If you find one false, say at which input.
  Laid BY PROGRAM, IN A SANDBOX (cutbox-rows.mjs): the forced cells as the released guide's own fill.sh prints them over the translation 928ddc3bcfc1f9c9… (all of the seat's roots in one cut). By AI agents, Wed Nov 11 2026. No macro, syntax, notation, axiom, sorry.
-/
import Derived.Test.YtfmcpplkmldhiaaChecked
import GoSem.Claim
import GoSem.ClaimJoined
import GoSem.ClaimMapViews
import Derived.JoinedTies
import Derived.KernelRfl
namespace Go.Proofs.Ytfmcpplkmldhiaa
/- THE CELL 'sum', in the pinned program and in every row, IS THE sha256 OF THE DUMP (.gsa) THAT YtfmcpplkmldhiaaProg.lean LOADS. Nothing in Lean hashes anything: it is a label: what it is worth is what the hold of that sum in a sandbox is worth. -/
noncomputable def Try.pinned : Pinned := { name := "ytfmcpplkmldhiaa", sum := "928ddc3bcfc1f9c9fe0bf6446693f58027feca33d1c6629da9f4b7b0609543e9", checked := Try.checked }
namespace Rows
def none {H : Type} : Left H := { results := [], args := [] }

/-- 'grisaillelaw12.AffineApply': WHATEVER THE INPUT: true; the input reads as it did. -/
def affineApplySpec : ChangeSpec := { name := "affineApply", fn := fun _ => fun
  | [d1, d2] => { results := [.lit (.bool true)], args := [d1, d2] }
  | _ => none }
def affineApplyRow : OpenClaim := { program := "ytfmcpplkmldhiaa", sum := "928ddc3bcfc1f9c9fe0bf6446693f58027feca33d1c6629da9f4b7b0609543e9", func := "grisaille/grisaillelaw12.AffineApply", spec := "affineApply", unfollowed := true, recurses := true, apart := false }
def AffineApplySaid : Prop := affineApplyRow.holds Try.pinned (OpenSpec.ofChange affineApplySpec)

/-- ITS FALSE NEIGHBOUR: 'it returns false'. Refute it at one input. -/
def affineApplyWrong : ChangeSpec := { name := "affineApply", fn := fun _ => fun
  | [d1, d2] => { results := [.lit (.bool false)], args := [d1, d2] }
  | _ => none }
def AffineApplyWrongFalsely : Prop := affineApplyRow.holds Try.pinned (OpenSpec.ofChange affineApplyWrong)

/-- 'grisaillelaw12.AffineConstructors': WHATEVER THE INPUT: true; the input reads as it did. -/
def affineConstructorsSpec : ChangeSpec := { name := "affineConstructors", fn := fun _ => fun
  | [d1, d2, d3] => { results := [.lit (.bool true)], args := [d1, d2, d3] }
  | _ => none }
def affineConstructorsRow : OpenClaim := { program := "ytfmcpplkmldhiaa", sum := "928ddc3bcfc1f9c9fe0bf6446693f58027feca33d1c6629da9f4b7b0609543e9", func := "grisaille/grisaillelaw12.AffineConstructors", spec := "affineConstructors", unfollowed := true, recurses := true, apart := false }
def AffineConstructorsSaid : Prop := affineConstructorsRow.holds Try.pinned (OpenSpec.ofChange affineConstructorsSpec)

/-- ITS FALSE NEIGHBOUR: 'it returns false'. Refute it at one input. -/
def affineConstructorsWrong : ChangeSpec := { name := "affineConstructors", fn := fun _ => fun
  | [d1, d2, d3] => { results := [.lit (.bool false)], args := [d1, d2, d3] }
  | _ => none }
def AffineConstructorsWrongFalsely : Prop := affineConstructorsRow.holds Try.pinned (OpenSpec.ofChange affineConstructorsWrong)

/-- 'grisaillelaw12.AffineCompose': WHATEVER THE INPUT: true; the input reads as it did. -/
def affineComposeSpec : ChangeSpec := { name := "affineCompose", fn := fun _ => fun
  | [d1, d2] => { results := [.lit (.bool true)], args := [d1, d2] }
  | _ => none }
def affineComposeRow : OpenClaim := { program := "ytfmcpplkmldhiaa", sum := "928ddc3bcfc1f9c9fe0bf6446693f58027feca33d1c6629da9f4b7b0609543e9", func := "grisaille/grisaillelaw12.AffineCompose", spec := "affineCompose", unfollowed := true, recurses := true, apart := false }
def AffineComposeSaid : Prop := affineComposeRow.holds Try.pinned (OpenSpec.ofChange affineComposeSpec)

/-- ITS FALSE NEIGHBOUR: 'it returns false'. Refute it at one input. -/
def affineComposeWrong : ChangeSpec := { name := "affineCompose", fn := fun _ => fun
  | [d1, d2] => { results := [.lit (.bool false)], args := [d1, d2] }
  | _ => none }
def AffineComposeWrongFalsely : Prop := affineComposeRow.holds Try.pinned (OpenSpec.ofChange affineComposeWrong)

/-- 'grisaillelaw12.AffineTranslate': WHATEVER THE INPUT: true; the input reads as it did. -/
def affineTranslateSpec : ChangeSpec := { name := "affineTranslate", fn := fun _ => fun
  | [d1, d2, d3] => { results := [.lit (.bool true)], args := [d1, d2, d3] }
  | _ => none }
def affineTranslateRow : OpenClaim := { program := "ytfmcpplkmldhiaa", sum := "928ddc3bcfc1f9c9fe0bf6446693f58027feca33d1c6629da9f4b7b0609543e9", func := "grisaille/grisaillelaw12.AffineTranslate", spec := "affineTranslate", unfollowed := true, recurses := true, apart := false }
def AffineTranslateSaid : Prop := affineTranslateRow.holds Try.pinned (OpenSpec.ofChange affineTranslateSpec)

/-- ITS FALSE NEIGHBOUR: 'it returns false'. Refute it at one input. -/
def affineTranslateWrong : ChangeSpec := { name := "affineTranslate", fn := fun _ => fun
  | [d1, d2, d3] => { results := [.lit (.bool false)], args := [d1, d2, d3] }
  | _ => none }
def AffineTranslateWrongFalsely : Prop := affineTranslateRow.holds Try.pinned (OpenSpec.ofChange affineTranslateWrong)

/-- 'grisaillelaw12.AffineTrianglesCompose': WHATEVER THE INPUT: true; the input reads as it did. -/
def affineTrianglesComposeSpec : ChangeSpec := { name := "affineTrianglesCompose", fn := fun _ => fun
  | [d1, d2, d3] => { results := [.lit (.bool true)], args := [d1, d2, d3] }
  | _ => none }
def affineTrianglesComposeRow : OpenClaim := { program := "ytfmcpplkmldhiaa", sum := "928ddc3bcfc1f9c9fe0bf6446693f58027feca33d1c6629da9f4b7b0609543e9", func := "grisaille/grisaillelaw12.AffineTrianglesCompose", spec := "affineTrianglesCompose", unfollowed := true, recurses := true, apart := false }
def AffineTrianglesComposeSaid : Prop := affineTrianglesComposeRow.holds Try.pinned (OpenSpec.ofChange affineTrianglesComposeSpec)

/-- ITS FALSE NEIGHBOUR: 'it returns false'. Refute it at one input. -/
def affineTrianglesComposeWrong : ChangeSpec := { name := "affineTrianglesCompose", fn := fun _ => fun
  | [d1, d2, d3] => { results := [.lit (.bool false)], args := [d1, d2, d3] }
  | _ => none }
def AffineTrianglesComposeWrongFalsely : Prop := affineTrianglesComposeRow.holds Try.pinned (OpenSpec.ofChange affineTrianglesComposeWrong)

/-- 'grisaillelaw12.AffineRecompose': WHATEVER THE INPUT: true; the input reads as it did. -/
def affineRecomposeSpec : ChangeSpec := { name := "affineRecompose", fn := fun _ => fun
  | [d] => { results := [.lit (.bool true)], args := [d] }
  | _ => none }
def affineRecomposeRow : OpenClaim := { program := "ytfmcpplkmldhiaa", sum := "928ddc3bcfc1f9c9fe0bf6446693f58027feca33d1c6629da9f4b7b0609543e9", func := "grisaille/grisaillelaw12.AffineRecompose", spec := "affineRecompose", unfollowed := true, recurses := true, apart := false }
def AffineRecomposeSaid : Prop := affineRecomposeRow.holds Try.pinned (OpenSpec.ofChange affineRecomposeSpec)

/-- ITS FALSE NEIGHBOUR: 'it returns false'. Refute it at one input. -/
def affineRecomposeWrong : ChangeSpec := { name := "affineRecompose", fn := fun _ => fun
  | [d] => { results := [.lit (.bool false)], args := [d] }
  | _ => none }
def AffineRecomposeWrongFalsely : Prop := affineRecomposeRow.holds Try.pinned (OpenSpec.ofChange affineRecomposeWrong)

/- THE SECOND FORM. 'bulk': how many values and letters a reading holds, each counted each time it is reached (what is shared counts as often as it is met; a slice's spare places count too). A statement '..UptoSaid' is the law's where the arguments, and the package variables that the reading takes, are together of bulk at most 1048576: NARROWER than '..Said'. Prove '..Said' where nothing that the law and all that it calls make is longer than what came in: it says more and counts as full. Else prove '..UptoSaid'. A law counts once. -/
mutual
def uptoBulk {H : Type} : DataW H → Nat
  | .lit (.string bytes) => bytes.length + 1
  | .lit _ => 1
  | .nil => 1
  | .ptr d => uptoBulk d + 1
  | .slice elems spare => uptoBulkAll elems + uptoBulkAll spare + 1
  | .agg parts => uptoBulkAll parts + 1
  | .iface _ d => uptoBulk d + 1
  | .map entries => uptoBulkEntries entries + 1
  | .held _ => 1
def uptoBulkAll {H : Type} : List (DataW H) → Nat
  | [] => 0
  | d :: r => uptoBulk d + uptoBulkAll r
def uptoBulkEntries {H : Type} : List (Lit × DataW H) → Nat
  | [] => 0
  | x :: r => uptoBulkEntry x + uptoBulkEntries r
def uptoBulkEntry {H : Type} : Lit × DataW H → Nat
  | (.string bytes, d) => bytes.length + uptoBulk d + 1
  | (_, d) => uptoBulk d + 1
 end
def uptoSmall : (H : Type) → List (DataW H) → Bool := fun _ ds => decide (uptoBulkAll ds ≤ 1048576)
def OpenSpec.upto (s : _root_.Go.ChangeSpec) : _root_.Go.OpenSpec := { _root_.Go.OpenSpec.ofChange s with cond := some uptoSmall }

/-- 'grisaillelaw12.AffineApply', WHERE WHAT IT READS IS OF BULK AT MOST 1048576: true; the input reads as it did. -/
def affineApplyUptoRow : OpenClaim := { program := "ytfmcpplkmldhiaa", sum := "928ddc3bcfc1f9c9fe0bf6446693f58027feca33d1c6629da9f4b7b0609543e9", func := "grisaille/grisaillelaw12.AffineApply", spec := "affineApply", unfollowed := true, recurses := true, apart := false, narrowed := true }
def AffineApplyUptoSaid : Prop := affineApplyUptoRow.holds Try.pinned (OpenSpec.upto affineApplySpec)

/-- 'grisaillelaw12.AffineConstructors', WHERE WHAT IT READS IS OF BULK AT MOST 1048576: true; the input reads as it did. -/
def affineConstructorsUptoRow : OpenClaim := { program := "ytfmcpplkmldhiaa", sum := "928ddc3bcfc1f9c9fe0bf6446693f58027feca33d1c6629da9f4b7b0609543e9", func := "grisaille/grisaillelaw12.AffineConstructors", spec := "affineConstructors", unfollowed := true, recurses := true, apart := false, narrowed := true }
def AffineConstructorsUptoSaid : Prop := affineConstructorsUptoRow.holds Try.pinned (OpenSpec.upto affineConstructorsSpec)

/-- 'grisaillelaw12.AffineCompose', WHERE WHAT IT READS IS OF BULK AT MOST 1048576: true; the input reads as it did. -/
def affineComposeUptoRow : OpenClaim := { program := "ytfmcpplkmldhiaa", sum := "928ddc3bcfc1f9c9fe0bf6446693f58027feca33d1c6629da9f4b7b0609543e9", func := "grisaille/grisaillelaw12.AffineCompose", spec := "affineCompose", unfollowed := true, recurses := true, apart := false, narrowed := true }
def AffineComposeUptoSaid : Prop := affineComposeUptoRow.holds Try.pinned (OpenSpec.upto affineComposeSpec)

/-- 'grisaillelaw12.AffineTranslate', WHERE WHAT IT READS IS OF BULK AT MOST 1048576: true; the input reads as it did. -/
def affineTranslateUptoRow : OpenClaim := { program := "ytfmcpplkmldhiaa", sum := "928ddc3bcfc1f9c9fe0bf6446693f58027feca33d1c6629da9f4b7b0609543e9", func := "grisaille/grisaillelaw12.AffineTranslate", spec := "affineTranslate", unfollowed := true, recurses := true, apart := false, narrowed := true }
def AffineTranslateUptoSaid : Prop := affineTranslateUptoRow.holds Try.pinned (OpenSpec.upto affineTranslateSpec)

/-- 'grisaillelaw12.AffineTrianglesCompose', WHERE WHAT IT READS IS OF BULK AT MOST 1048576: true; the input reads as it did. -/
def affineTrianglesComposeUptoRow : OpenClaim := { program := "ytfmcpplkmldhiaa", sum := "928ddc3bcfc1f9c9fe0bf6446693f58027feca33d1c6629da9f4b7b0609543e9", func := "grisaille/grisaillelaw12.AffineTrianglesCompose", spec := "affineTrianglesCompose", unfollowed := true, recurses := true, apart := false, narrowed := true }
def AffineTrianglesComposeUptoSaid : Prop := affineTrianglesComposeUptoRow.holds Try.pinned (OpenSpec.upto affineTrianglesComposeSpec)

/-- 'grisaillelaw12.AffineRecompose', WHERE WHAT IT READS IS OF BULK AT MOST 1048576: true; the input reads as it did. -/
def affineRecomposeUptoRow : OpenClaim := { program := "ytfmcpplkmldhiaa", sum := "928ddc3bcfc1f9c9fe0bf6446693f58027feca33d1c6629da9f4b7b0609543e9", func := "grisaille/grisaillelaw12.AffineRecompose", spec := "affineRecompose", unfollowed := true, recurses := true, apart := false, narrowed := true }
def AffineRecomposeUptoSaid : Prop := affineRecomposeUptoRow.holds Try.pinned (OpenSpec.upto affineRecomposeSpec)

end Rows
end Go.Proofs.Ytfmcpplkmldhiaa
