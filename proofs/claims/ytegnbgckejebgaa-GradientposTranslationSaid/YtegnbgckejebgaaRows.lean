/-
  No cell of these rows narrows 'for every input' (looked for: loops, veiled, ifaces, maps, wideKeys, modest, calm, conditions, laid).
  DERIVED. THE GIVEN ROWS OF THIS SEAT. 6 by the template 'for every input the law returns true; each argument reads behind the call as it read before'; 0 by the template 'total and deterministic' (their statements: YtegnbgckejebgaaTotals.lean).
  GIVEN WITH THE SEED: the statements are not yours to turn. If you find one false, say at which input.
  Laid BY PROGRAM, IN A SANDBOX (cutbox-rows.mjs): the forced cells as the released guide's own fill.sh prints them over the translation ec23802c53bada2b… (all of the seat's roots in one cut). By AI agents, Wed Nov 11 2026. No macro, syntax, notation, axiom, sorry.
-/
import Derived.Test.YtegnbgckejebgaaChecked
import GoSem.Claim
import GoSem.ClaimJoined
import GoSem.ClaimMapViews
import Derived.JoinedTies
import Derived.KernelRfl
namespace Go.Proofs.Ytegnbgckejebgaa
/- THE CELL 'sum', in the pinned program and in every row, IS THE sha256 OF THE DUMP (.gsa) THAT YtegnbgckejebgaaProg.lean LOADS. Nothing in Lean hashes anything: it is a label: what it is worth is what the hold of that sum in a sandbox is worth. -/
noncomputable def Try.pinned : Pinned := { name := "ytegnbgckejebgaa", sum := "ec23802c53bada2b5a56cfdff1cdd07df874bf16e2252c16dad2b91d78cc5c57", checked := Try.checked }
namespace Rows
def none {H : Type} : Left H := { results := [], args := [] }

/-- 'grisaillelaw32.GradientposLinear': WHATEVER THE INPUT: true; the input reads as it did. -/
def gradientposLinearSpec : ChangeSpec := { name := "gradientposLinear", fn := fun _ => fun
  | [d1, d2] => { results := [.lit (.bool true)], args := [d1, d2] }
  | _ => none }
def gradientposLinearRow : OpenClaim := { program := "ytegnbgckejebgaa", sum := "ec23802c53bada2b5a56cfdff1cdd07df874bf16e2252c16dad2b91d78cc5c57", func := "grisaille/grisaillelaw32.GradientposLinear", spec := "gradientposLinear", unfollowed := true, recurses := true, apart := false }
def GradientposLinearSaid : Prop := gradientposLinearRow.holds Try.pinned (OpenSpec.ofChange gradientposLinearSpec)

/-- ITS FALSE NEIGHBOUR: 'it returns false'. Refute it at one input. -/
def gradientposLinearWrong : ChangeSpec := { name := "gradientposLinear", fn := fun _ => fun
  | [d1, d2] => { results := [.lit (.bool false)], args := [d1, d2] }
  | _ => none }
def GradientposLinearWrongFalsely : Prop := gradientposLinearRow.holds Try.pinned (OpenSpec.ofChange gradientposLinearWrong)

/-- 'grisaillelaw32.GradientposRadial': WHATEVER THE INPUT: true; the input reads as it did. -/
def gradientposRadialSpec : ChangeSpec := { name := "gradientposRadial", fn := fun _ => fun
  | [d1, d2, d3] => { results := [.lit (.bool true)], args := [d1, d2, d3] }
  | _ => none }
def gradientposRadialRow : OpenClaim := { program := "ytegnbgckejebgaa", sum := "ec23802c53bada2b5a56cfdff1cdd07df874bf16e2252c16dad2b91d78cc5c57", func := "grisaille/grisaillelaw32.GradientposRadial", spec := "gradientposRadial", unfollowed := true, recurses := true, apart := false }
def GradientposRadialSaid : Prop := gradientposRadialRow.holds Try.pinned (OpenSpec.ofChange gradientposRadialSpec)

/-- ITS FALSE NEIGHBOUR: 'it returns false'. Refute it at one input. -/
def gradientposRadialWrong : ChangeSpec := { name := "gradientposRadial", fn := fun _ => fun
  | [d1, d2, d3] => { results := [.lit (.bool false)], args := [d1, d2, d3] }
  | _ => none }
def GradientposRadialWrongFalsely : Prop := gradientposRadialRow.holds Try.pinned (OpenSpec.ofChange gradientposRadialWrong)

/-- 'grisaillelaw32.GradientposClamp': WHATEVER THE INPUT: true; the input reads as it did. -/
def gradientposClampSpec : ChangeSpec := { name := "gradientposClamp", fn := fun _ => fun
  | [d1, d2] => { results := [.lit (.bool true)], args := [d1, d2] }
  | _ => none }
def gradientposClampRow : OpenClaim := { program := "ytegnbgckejebgaa", sum := "ec23802c53bada2b5a56cfdff1cdd07df874bf16e2252c16dad2b91d78cc5c57", func := "grisaille/grisaillelaw32.GradientposClamp", spec := "gradientposClamp", unfollowed := true, recurses := true, apart := false }
def GradientposClampSaid : Prop := gradientposClampRow.holds Try.pinned (OpenSpec.ofChange gradientposClampSpec)

/-- ITS FALSE NEIGHBOUR: 'it returns false'. Refute it at one input. -/
def gradientposClampWrong : ChangeSpec := { name := "gradientposClamp", fn := fun _ => fun
  | [d1, d2] => { results := [.lit (.bool false)], args := [d1, d2] }
  | _ => none }
def GradientposClampWrongFalsely : Prop := gradientposClampRow.holds Try.pinned (OpenSpec.ofChange gradientposClampWrong)

/-- 'grisaillelaw32.GradientposMonotone': WHATEVER THE INPUT: true; the input reads as it did. -/
def gradientposMonotoneSpec : ChangeSpec := { name := "gradientposMonotone", fn := fun _ => fun
  | [d1, d2, d3] => { results := [.lit (.bool true)], args := [d1, d2, d3] }
  | _ => none }
def gradientposMonotoneRow : OpenClaim := { program := "ytegnbgckejebgaa", sum := "ec23802c53bada2b5a56cfdff1cdd07df874bf16e2252c16dad2b91d78cc5c57", func := "grisaille/grisaillelaw32.GradientposMonotone", spec := "gradientposMonotone", unfollowed := true, recurses := true, apart := false }
def GradientposMonotoneSaid : Prop := gradientposMonotoneRow.holds Try.pinned (OpenSpec.ofChange gradientposMonotoneSpec)

/-- ITS FALSE NEIGHBOUR: 'it returns false'. Refute it at one input. -/
def gradientposMonotoneWrong : ChangeSpec := { name := "gradientposMonotone", fn := fun _ => fun
  | [d1, d2, d3] => { results := [.lit (.bool false)], args := [d1, d2, d3] }
  | _ => none }
def GradientposMonotoneWrongFalsely : Prop := gradientposMonotoneRow.holds Try.pinned (OpenSpec.ofChange gradientposMonotoneWrong)

/-- 'grisaillelaw32.GradientposSymmetry': WHATEVER THE INPUT: true; the input reads as it did. -/
def gradientposSymmetrySpec : ChangeSpec := { name := "gradientposSymmetry", fn := fun _ => fun
  | [d1, d2] => { results := [.lit (.bool true)], args := [d1, d2] }
  | _ => none }
def gradientposSymmetryRow : OpenClaim := { program := "ytegnbgckejebgaa", sum := "ec23802c53bada2b5a56cfdff1cdd07df874bf16e2252c16dad2b91d78cc5c57", func := "grisaille/grisaillelaw32.GradientposSymmetry", spec := "gradientposSymmetry", unfollowed := true, recurses := true, apart := false }
def GradientposSymmetrySaid : Prop := gradientposSymmetryRow.holds Try.pinned (OpenSpec.ofChange gradientposSymmetrySpec)

/-- ITS FALSE NEIGHBOUR: 'it returns false'. Refute it at one input. -/
def gradientposSymmetryWrong : ChangeSpec := { name := "gradientposSymmetry", fn := fun _ => fun
  | [d1, d2] => { results := [.lit (.bool false)], args := [d1, d2] }
  | _ => none }
def GradientposSymmetryWrongFalsely : Prop := gradientposSymmetryRow.holds Try.pinned (OpenSpec.ofChange gradientposSymmetryWrong)

/-- 'grisaillelaw32.GradientposTranslation': WHATEVER THE INPUT: true; the input reads as it did. -/
def gradientposTranslationSpec : ChangeSpec := { name := "gradientposTranslation", fn := fun _ => fun
  | [d1, d2, d3] => { results := [.lit (.bool true)], args := [d1, d2, d3] }
  | _ => none }
def gradientposTranslationRow : OpenClaim := { program := "ytegnbgckejebgaa", sum := "ec23802c53bada2b5a56cfdff1cdd07df874bf16e2252c16dad2b91d78cc5c57", func := "grisaille/grisaillelaw32.GradientposTranslation", spec := "gradientposTranslation", unfollowed := true, recurses := true, apart := false }
def GradientposTranslationSaid : Prop := gradientposTranslationRow.holds Try.pinned (OpenSpec.ofChange gradientposTranslationSpec)

/-- ITS FALSE NEIGHBOUR: 'it returns false'. Refute it at one input. -/
def gradientposTranslationWrong : ChangeSpec := { name := "gradientposTranslation", fn := fun _ => fun
  | [d1, d2, d3] => { results := [.lit (.bool false)], args := [d1, d2, d3] }
  | _ => none }
def GradientposTranslationWrongFalsely : Prop := gradientposTranslationRow.holds Try.pinned (OpenSpec.ofChange gradientposTranslationWrong)

/- THE SECOND FORM. 'bulk': how many values and letters a reading holds, each counted each time it is reached (what is shared counts as often as it is met; a slice's spare places count too). A statement '..UptoSaid' is the law's where the arguments, and the package variables that the reading takes, are together of bulk at most 1048576: NARROWER than '..Said'. Prove '..Said' where nothing that the law and all that it calls make is longer than what came in: it says more and counts as full. Else prove '..UptoSaid'. A law counts once. -/
mutual
def uptoBulk {H : Type} : DataW H → Nat
  | .lit (.string bytes) => bytes.length + 1
  | .lit _ => 1
  | .nil => 1
  | .ptr d => uptoBulk d + 1
  | .slice elems spare => uptoBulkAll elems + uptoBulkAll spare + 1
  | .agg parts => uptoBulkAll parts + 1
  | .iface _ d => uptoBulk d + 1
  | .map entries => uptoBulkEntries entries + 1
  | .held _ => 1
def uptoBulkAll {H : Type} : List (DataW H) → Nat
  | [] => 0
  | d :: r => uptoBulk d + uptoBulkAll r
def uptoBulkEntries {H : Type} : List (Lit × DataW H) → Nat
  | [] => 0
  | x :: r => uptoBulkEntry x + uptoBulkEntries r
def uptoBulkEntry {H : Type} : Lit × DataW H → Nat
  | (.string bytes, d) => bytes.length + uptoBulk d + 1
  | (_, d) => uptoBulk d + 1
 end
def uptoSmall : (H : Type) → List (DataW H) → Bool := fun _ ds => decide (uptoBulkAll ds ≤ 1048576)
def OpenSpec.upto (s : _root_.Go.ChangeSpec) : _root_.Go.OpenSpec := { _root_.Go.OpenSpec.ofChange s with cond := some uptoSmall }

/-- 'grisaillelaw32.GradientposLinear', WHERE WHAT IT READS IS OF BULK AT MOST 1048576: true; the input reads as it did. -/
def gradientposLinearUptoRow : OpenClaim := { program := "ytegnbgckejebgaa", sum := "ec23802c53bada2b5a56cfdff1cdd07df874bf16e2252c16dad2b91d78cc5c57", func := "grisaille/grisaillelaw32.GradientposLinear", spec := "gradientposLinear", unfollowed := true, recurses := true, apart := false, narrowed := true }
def GradientposLinearUptoSaid : Prop := gradientposLinearUptoRow.holds Try.pinned (OpenSpec.upto gradientposLinearSpec)

/-- 'grisaillelaw32.GradientposRadial', WHERE WHAT IT READS IS OF BULK AT MOST 1048576: true; the input reads as it did. -/
def gradientposRadialUptoRow : OpenClaim := { program := "ytegnbgckejebgaa", sum := "ec23802c53bada2b5a56cfdff1cdd07df874bf16e2252c16dad2b91d78cc5c57", func := "grisaille/grisaillelaw32.GradientposRadial", spec := "gradientposRadial", unfollowed := true, recurses := true, apart := false, narrowed := true }
def GradientposRadialUptoSaid : Prop := gradientposRadialUptoRow.holds Try.pinned (OpenSpec.upto gradientposRadialSpec)

/-- 'grisaillelaw32.GradientposClamp', WHERE WHAT IT READS IS OF BULK AT MOST 1048576: true; the input reads as it did. -/
def gradientposClampUptoRow : OpenClaim := { program := "ytegnbgckejebgaa", sum := "ec23802c53bada2b5a56cfdff1cdd07df874bf16e2252c16dad2b91d78cc5c57", func := "grisaille/grisaillelaw32.GradientposClamp", spec := "gradientposClamp", unfollowed := true, recurses := true, apart := false, narrowed := true }
def GradientposClampUptoSaid : Prop := gradientposClampUptoRow.holds Try.pinned (OpenSpec.upto gradientposClampSpec)

/-- 'grisaillelaw32.GradientposMonotone', WHERE WHAT IT READS IS OF BULK AT MOST 1048576: true; the input reads as it did. -/
def gradientposMonotoneUptoRow : OpenClaim := { program := "ytegnbgckejebgaa", sum := "ec23802c53bada2b5a56cfdff1cdd07df874bf16e2252c16dad2b91d78cc5c57", func := "grisaille/grisaillelaw32.GradientposMonotone", spec := "gradientposMonotone", unfollowed := true, recurses := true, apart := false, narrowed := true }
def GradientposMonotoneUptoSaid : Prop := gradientposMonotoneUptoRow.holds Try.pinned (OpenSpec.upto gradientposMonotoneSpec)

/-- 'grisaillelaw32.GradientposSymmetry', WHERE WHAT IT READS IS OF BULK AT MOST 1048576: true; the input reads as it did. -/
def gradientposSymmetryUptoRow : OpenClaim := { program := "ytegnbgckejebgaa", sum := "ec23802c53bada2b5a56cfdff1cdd07df874bf16e2252c16dad2b91d78cc5c57", func := "grisaille/grisaillelaw32.GradientposSymmetry", spec := "gradientposSymmetry", unfollowed := true, recurses := true, apart := false, narrowed := true }
def GradientposSymmetryUptoSaid : Prop := gradientposSymmetryUptoRow.holds Try.pinned (OpenSpec.upto gradientposSymmetrySpec)

/-- 'grisaillelaw32.GradientposTranslation', WHERE WHAT IT READS IS OF BULK AT MOST 1048576: true; the input reads as it did. -/
def gradientposTranslationUptoRow : OpenClaim := { program := "ytegnbgckejebgaa", sum := "ec23802c53bada2b5a56cfdff1cdd07df874bf16e2252c16dad2b91d78cc5c57", func := "grisaille/grisaillelaw32.GradientposTranslation", spec := "gradientposTranslation", unfollowed := true, recurses := true, apart := false, narrowed := true }
def GradientposTranslationUptoSaid : Prop := gradientposTranslationUptoRow.holds Try.pinned (OpenSpec.upto gradientposTranslationSpec)

end Rows
end Go.Proofs.Ytegnbgckejebgaa
