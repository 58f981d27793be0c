/-
  No cell of these rows narrows 'for every input' (looked for: loops, veiled, ifaces, maps, wideKeys, modest, calm, conditions, laid).
  DERIVED. THE GIVEN ROWS OF THIS SEAT. 9 by the template 'for every input the law returns true; each argument reads behind the call as it read before'; 0 by the template 'total and deterministic' (their statements: YtklohficlfnjfaaTotals.lean).
  GIVEN WITH THE SEED: the statements are not yours to turn. If you find one false, say at which input.
  Laid BY PROGRAM, IN A SANDBOX (cutbox-rows.mjs): the forced cells as the released guide's own fill.sh prints them over the translation 916bf695ce79aab6… (all of the seat's roots in one cut). By AI agents, Wed Nov 11 2026. No macro, syntax, notation, axiom, sorry.
-/
import Derived.Test.YtklohficlfnjfaaChecked
import GoSem.Claim
import GoSem.ClaimJoined
import GoSem.ClaimMapViews
import Derived.JoinedTies
import Derived.KernelRfl
namespace Go.Proofs.Ytklohficlfnjfaa
/- THE CELL 'sum', in the pinned program and in every row, IS THE sha256 OF THE DUMP (.gsa) THAT YtklohficlfnjfaaProg.lean LOADS. Nothing in Lean hashes anything: it is a label: what it is worth is what the hold of that sum in a sandbox is worth. -/
noncomputable def Try.pinned : Pinned := { name := "ytklohficlfnjfaa", sum := "916bf695ce79aab6270a0f3f5ce5dedd0b5bf610501156866e19671bb2e5ab51", checked := Try.checked }
namespace Rows
def none {H : Type} : Left H := { results := [], args := [] }

/-- 'grisaillelaw01.NaturalShift': WHATEVER THE INPUT: true; the input reads as it did. -/
def naturalShiftSpec : ChangeSpec := { name := "naturalShift", fn := fun _ => fun
  | [d1, d2, d3] => { results := [.lit (.bool true)], args := [d1, d2, d3] }
  | _ => none }
def naturalShiftRow : OpenClaim := { program := "ytklohficlfnjfaa", sum := "916bf695ce79aab6270a0f3f5ce5dedd0b5bf610501156866e19671bb2e5ab51", func := "grisaille/grisaillelaw01.NaturalShift", spec := "naturalShift", apart := false }
def NaturalShiftSaid : Prop := naturalShiftRow.holds Try.pinned (OpenSpec.ofChange naturalShiftSpec)

/-- ITS FALSE NEIGHBOUR: 'it returns false'. Refute it at one input. -/
def naturalShiftWrong : ChangeSpec := { name := "naturalShift", fn := fun _ => fun
  | [d1, d2, d3] => { results := [.lit (.bool false)], args := [d1, d2, d3] }
  | _ => none }
def NaturalShiftWrongFalsely : Prop := naturalShiftRow.holds Try.pinned (OpenSpec.ofChange naturalShiftWrong)

/-- 'grisaillelaw01.NaturalText': WHATEVER THE INPUT: true; the input reads as it did. -/
def naturalTextSpec : ChangeSpec := { name := "naturalText", fn := fun _ => fun
  | [d1, d2] => { results := [.lit (.bool true)], args := [d1, d2] }
  | _ => none }
def naturalTextRow : OpenClaim := { program := "ytklohficlfnjfaa", sum := "916bf695ce79aab6270a0f3f5ce5dedd0b5bf610501156866e19671bb2e5ab51", func := "grisaille/grisaillelaw01.NaturalText", spec := "naturalText", apart := false }
def NaturalTextSaid : Prop := naturalTextRow.holds Try.pinned (OpenSpec.ofChange naturalTextSpec)

/-- ITS FALSE NEIGHBOUR: 'it returns false'. Refute it at one input. -/
def naturalTextWrong : ChangeSpec := { name := "naturalText", fn := fun _ => fun
  | [d1, d2] => { results := [.lit (.bool false)], args := [d1, d2] }
  | _ => none }
def NaturalTextWrongFalsely : Prop := naturalTextRow.holds Try.pinned (OpenSpec.ofChange naturalTextWrong)

/-- 'grisaillelaw01.NaturalDivMod': WHATEVER THE INPUT: true; the input reads as it did. -/
def naturalDivModSpec : ChangeSpec := { name := "naturalDivMod", fn := fun _ => fun
  | [d1, d2] => { results := [.lit (.bool true)], args := [d1, d2] }
  | _ => none }
def naturalDivModRow : OpenClaim := { program := "ytklohficlfnjfaa", sum := "916bf695ce79aab6270a0f3f5ce5dedd0b5bf610501156866e19671bb2e5ab51", func := "grisaille/grisaillelaw01.NaturalDivMod", spec := "naturalDivMod", apart := false }
def NaturalDivModSaid : Prop := naturalDivModRow.holds Try.pinned (OpenSpec.ofChange naturalDivModSpec)

/-- ITS FALSE NEIGHBOUR: 'it returns false'. Refute it at one input. -/
def naturalDivModWrong : ChangeSpec := { name := "naturalDivMod", fn := fun _ => fun
  | [d1, d2] => { results := [.lit (.bool false)], args := [d1, d2] }
  | _ => none }
def NaturalDivModWrongFalsely : Prop := naturalDivModRow.holds Try.pinned (OpenSpec.ofChange naturalDivModWrong)

/-- 'grisaillelaw01.NaturalRoundTrip': WHATEVER THE INPUT: true; the input reads as it did. -/
def naturalRoundTripSpec : ChangeSpec := { name := "naturalRoundTrip", fn := fun _ => fun
  | [d1, d2] => { results := [.lit (.bool true)], args := [d1, d2] }
  | _ => none }
def naturalRoundTripRow : OpenClaim := { program := "ytklohficlfnjfaa", sum := "916bf695ce79aab6270a0f3f5ce5dedd0b5bf610501156866e19671bb2e5ab51", func := "grisaille/grisaillelaw01.NaturalRoundTrip", spec := "naturalRoundTrip", apart := false }
def NaturalRoundTripSaid : Prop := naturalRoundTripRow.holds Try.pinned (OpenSpec.ofChange naturalRoundTripSpec)

/-- ITS FALSE NEIGHBOUR: 'it returns false'. Refute it at one input. -/
def naturalRoundTripWrong : ChangeSpec := { name := "naturalRoundTrip", fn := fun _ => fun
  | [d1, d2] => { results := [.lit (.bool false)], args := [d1, d2] }
  | _ => none }
def NaturalRoundTripWrongFalsely : Prop := naturalRoundTripRow.holds Try.pinned (OpenSpec.ofChange naturalRoundTripWrong)

/-- 'grisaillelaw01.NaturalBasics': WHATEVER THE INPUT: true; the input reads as it did. -/
def naturalBasicsSpec : ChangeSpec := { name := "naturalBasics", fn := fun _ => fun
  | [d1, d2, d3] => { results := [.lit (.bool true)], args := [d1, d2, d3] }
  | _ => none }
def naturalBasicsRow : OpenClaim := { program := "ytklohficlfnjfaa", sum := "916bf695ce79aab6270a0f3f5ce5dedd0b5bf610501156866e19671bb2e5ab51", func := "grisaille/grisaillelaw01.NaturalBasics", spec := "naturalBasics", apart := false }
def NaturalBasicsSaid : Prop := naturalBasicsRow.holds Try.pinned (OpenSpec.ofChange naturalBasicsSpec)

/-- ITS FALSE NEIGHBOUR: 'it returns false'. Refute it at one input. -/
def naturalBasicsWrong : ChangeSpec := { name := "naturalBasics", fn := fun _ => fun
  | [d1, d2, d3] => { results := [.lit (.bool false)], args := [d1, d2, d3] }
  | _ => none }
def NaturalBasicsWrongFalsely : Prop := naturalBasicsRow.holds Try.pinned (OpenSpec.ofChange naturalBasicsWrong)

/-- 'grisaillelaw01.NaturalGCD': WHATEVER THE INPUT: true; the input reads as it did. -/
def naturalGCDSpec : ChangeSpec := { name := "naturalGCD", fn := fun _ => fun
  | [d1, d2, d3] => { results := [.lit (.bool true)], args := [d1, d2, d3] }
  | _ => none }
def naturalGCDRow : OpenClaim := { program := "ytklohficlfnjfaa", sum := "916bf695ce79aab6270a0f3f5ce5dedd0b5bf610501156866e19671bb2e5ab51", func := "grisaille/grisaillelaw01.NaturalGCD", spec := "naturalGCD", apart := false }
def NaturalGCDSaid : Prop := naturalGCDRow.holds Try.pinned (OpenSpec.ofChange naturalGCDSpec)

/-- ITS FALSE NEIGHBOUR: 'it returns false'. Refute it at one input. -/
def naturalGCDWrong : ChangeSpec := { name := "naturalGCD", fn := fun _ => fun
  | [d1, d2, d3] => { results := [.lit (.bool false)], args := [d1, d2, d3] }
  | _ => none }
def NaturalGCDWrongFalsely : Prop := naturalGCDRow.holds Try.pinned (OpenSpec.ofChange naturalGCDWrong)

/-- 'grisaillelaw01.NaturalArithmetic': WHATEVER THE INPUT: true; the input reads as it did. -/
def naturalArithmeticSpec : ChangeSpec := { name := "naturalArithmetic", fn := fun _ => fun
  | [d1, d2] => { results := [.lit (.bool true)], args := [d1, d2] }
  | _ => none }
def naturalArithmeticRow : OpenClaim := { program := "ytklohficlfnjfaa", sum := "916bf695ce79aab6270a0f3f5ce5dedd0b5bf610501156866e19671bb2e5ab51", func := "grisaille/grisaillelaw01.NaturalArithmetic", spec := "naturalArithmetic", apart := false }
def NaturalArithmeticSaid : Prop := naturalArithmeticRow.holds Try.pinned (OpenSpec.ofChange naturalArithmeticSpec)

/-- ITS FALSE NEIGHBOUR: 'it returns false'. Refute it at one input. -/
def naturalArithmeticWrong : ChangeSpec := { name := "naturalArithmetic", fn := fun _ => fun
  | [d1, d2] => { results := [.lit (.bool false)], args := [d1, d2] }
  | _ => none }
def NaturalArithmeticWrongFalsely : Prop := naturalArithmeticRow.holds Try.pinned (OpenSpec.ofChange naturalArithmeticWrong)

/-- 'grisaillelaw01.NaturalRingLaws': WHATEVER THE INPUT: true; the input reads as it did. -/
def naturalRingLawsSpec : ChangeSpec := { name := "naturalRingLaws", fn := fun _ => fun
  | [d1, d2, d3] => { results := [.lit (.bool true)], args := [d1, d2, d3] }
  | _ => none }
def naturalRingLawsRow : OpenClaim := { program := "ytklohficlfnjfaa", sum := "916bf695ce79aab6270a0f3f5ce5dedd0b5bf610501156866e19671bb2e5ab51", func := "grisaille/grisaillelaw01.NaturalRingLaws", spec := "naturalRingLaws", apart := false }
def NaturalRingLawsSaid : Prop := naturalRingLawsRow.holds Try.pinned (OpenSpec.ofChange naturalRingLawsSpec)

/-- ITS FALSE NEIGHBOUR: 'it returns false'. Refute it at one input. -/
def naturalRingLawsWrong : ChangeSpec := { name := "naturalRingLaws", fn := fun _ => fun
  | [d1, d2, d3] => { results := [.lit (.bool false)], args := [d1, d2, d3] }
  | _ => none }
def NaturalRingLawsWrongFalsely : Prop := naturalRingLawsRow.holds Try.pinned (OpenSpec.ofChange naturalRingLawsWrong)

/-- 'grisaillelaw01.NaturalSqrt': WHATEVER THE INPUT: true; the input reads as it did. -/
def naturalSqrtSpec : ChangeSpec := { name := "naturalSqrt", fn := fun _ => fun
  | [d] => { results := [.lit (.bool true)], args := [d] }
  | _ => none }
def naturalSqrtRow : OpenClaim := { program := "ytklohficlfnjfaa", sum := "916bf695ce79aab6270a0f3f5ce5dedd0b5bf610501156866e19671bb2e5ab51", func := "grisaille/grisaillelaw01.NaturalSqrt", spec := "naturalSqrt", apart := false }
def NaturalSqrtSaid : Prop := naturalSqrtRow.holds Try.pinned (OpenSpec.ofChange naturalSqrtSpec)

/-- ITS FALSE NEIGHBOUR: 'it returns false'. Refute it at one input. -/
def naturalSqrtWrong : ChangeSpec := { name := "naturalSqrt", fn := fun _ => fun
  | [d] => { results := [.lit (.bool false)], args := [d] }
  | _ => none }
def NaturalSqrtWrongFalsely : Prop := naturalSqrtRow.holds Try.pinned (OpenSpec.ofChange naturalSqrtWrong)

/- THE SECOND FORM. 'bulk': how many values and letters a reading holds, each counted each time it is reached (what is shared counts as often as it is met; a slice's spare places count too). A statement '..UptoSaid' is the law's where the arguments, and the package variables that the reading takes, are together of bulk at most 1048576: NARROWER than '..Said'. Prove '..Said' where nothing that the law and all that it calls make is longer than what came in: it says more and counts as full. Else prove '..UptoSaid'. A law counts once. -/
mutual
def uptoBulk {H : Type} : DataW H → Nat
  | .lit (.string bytes) => bytes.length + 1
  | .lit _ => 1
  | .nil => 1
  | .ptr d => uptoBulk d + 1
  | .slice elems spare => uptoBulkAll elems + uptoBulkAll spare + 1
  | .agg parts => uptoBulkAll parts + 1
  | .iface _ d => uptoBulk d + 1
  | .map entries => uptoBulkEntries entries + 1
  | .held _ => 1
def uptoBulkAll {H : Type} : List (DataW H) → Nat
  | [] => 0
  | d :: r => uptoBulk d + uptoBulkAll r
def uptoBulkEntries {H : Type} : List (Lit × DataW H) → Nat
  | [] => 0
  | x :: r => uptoBulkEntry x + uptoBulkEntries r
def uptoBulkEntry {H : Type} : Lit × DataW H → Nat
  | (.string bytes, d) => bytes.length + uptoBulk d + 1
  | (_, d) => uptoBulk d + 1
 end
def uptoSmall : (H : Type) → List (DataW H) → Bool := fun _ ds => decide (uptoBulkAll ds ≤ 1048576)
def OpenSpec.upto (s : _root_.Go.ChangeSpec) : _root_.Go.OpenSpec := { _root_.Go.OpenSpec.ofChange s with cond := some uptoSmall }

/-- 'grisaillelaw01.NaturalShift', WHERE WHAT IT READS IS OF BULK AT MOST 1048576: true; the input reads as it did. -/
def naturalShiftUptoRow : OpenClaim := { program := "ytklohficlfnjfaa", sum := "916bf695ce79aab6270a0f3f5ce5dedd0b5bf610501156866e19671bb2e5ab51", func := "grisaille/grisaillelaw01.NaturalShift", spec := "naturalShift", apart := false, narrowed := true }
def NaturalShiftUptoSaid : Prop := naturalShiftUptoRow.holds Try.pinned (OpenSpec.upto naturalShiftSpec)

/-- 'grisaillelaw01.NaturalText', WHERE WHAT IT READS IS OF BULK AT MOST 1048576: true; the input reads as it did. -/
def naturalTextUptoRow : OpenClaim := { program := "ytklohficlfnjfaa", sum := "916bf695ce79aab6270a0f3f5ce5dedd0b5bf610501156866e19671bb2e5ab51", func := "grisaille/grisaillelaw01.NaturalText", spec := "naturalText", apart := false, narrowed := true }
def NaturalTextUptoSaid : Prop := naturalTextUptoRow.holds Try.pinned (OpenSpec.upto naturalTextSpec)

/-- 'grisaillelaw01.NaturalDivMod', WHERE WHAT IT READS IS OF BULK AT MOST 1048576: true; the input reads as it did. -/
def naturalDivModUptoRow : OpenClaim := { program := "ytklohficlfnjfaa", sum := "916bf695ce79aab6270a0f3f5ce5dedd0b5bf610501156866e19671bb2e5ab51", func := "grisaille/grisaillelaw01.NaturalDivMod", spec := "naturalDivMod", apart := false, narrowed := true }
def NaturalDivModUptoSaid : Prop := naturalDivModUptoRow.holds Try.pinned (OpenSpec.upto naturalDivModSpec)

/-- 'grisaillelaw01.NaturalRoundTrip', WHERE WHAT IT READS IS OF BULK AT MOST 1048576: true; the input reads as it did. -/
def naturalRoundTripUptoRow : OpenClaim := { program := "ytklohficlfnjfaa", sum := "916bf695ce79aab6270a0f3f5ce5dedd0b5bf610501156866e19671bb2e5ab51", func := "grisaille/grisaillelaw01.NaturalRoundTrip", spec := "naturalRoundTrip", apart := false, narrowed := true }
def NaturalRoundTripUptoSaid : Prop := naturalRoundTripUptoRow.holds Try.pinned (OpenSpec.upto naturalRoundTripSpec)

/-- 'grisaillelaw01.NaturalBasics', WHERE WHAT IT READS IS OF BULK AT MOST 1048576: true; the input reads as it did. -/
def naturalBasicsUptoRow : OpenClaim := { program := "ytklohficlfnjfaa", sum := "916bf695ce79aab6270a0f3f5ce5dedd0b5bf610501156866e19671bb2e5ab51", func := "grisaille/grisaillelaw01.NaturalBasics", spec := "naturalBasics", apart := false, narrowed := true }
def NaturalBasicsUptoSaid : Prop := naturalBasicsUptoRow.holds Try.pinned (OpenSpec.upto naturalBasicsSpec)

/-- 'grisaillelaw01.NaturalGCD', WHERE WHAT IT READS IS OF BULK AT MOST 1048576: true; the input reads as it did. -/
def naturalGCDUptoRow : OpenClaim := { program := "ytklohficlfnjfaa", sum := "916bf695ce79aab6270a0f3f5ce5dedd0b5bf610501156866e19671bb2e5ab51", func := "grisaille/grisaillelaw01.NaturalGCD", spec := "naturalGCD", apart := false, narrowed := true }
def NaturalGCDUptoSaid : Prop := naturalGCDUptoRow.holds Try.pinned (OpenSpec.upto naturalGCDSpec)

/-- 'grisaillelaw01.NaturalArithmetic', WHERE WHAT IT READS IS OF BULK AT MOST 1048576: true; the input reads as it did. -/
def naturalArithmeticUptoRow : OpenClaim := { program := "ytklohficlfnjfaa", sum := "916bf695ce79aab6270a0f3f5ce5dedd0b5bf610501156866e19671bb2e5ab51", func := "grisaille/grisaillelaw01.NaturalArithmetic", spec := "naturalArithmetic", apart := false, narrowed := true }
def NaturalArithmeticUptoSaid : Prop := naturalArithmeticUptoRow.holds Try.pinned (OpenSpec.upto naturalArithmeticSpec)

/-- 'grisaillelaw01.NaturalRingLaws', WHERE WHAT IT READS IS OF BULK AT MOST 1048576: true; the input reads as it did. -/
def naturalRingLawsUptoRow : OpenClaim := { program := "ytklohficlfnjfaa", sum := "916bf695ce79aab6270a0f3f5ce5dedd0b5bf610501156866e19671bb2e5ab51", func := "grisaille/grisaillelaw01.NaturalRingLaws", spec := "naturalRingLaws", apart := false, narrowed := true }
def NaturalRingLawsUptoSaid : Prop := naturalRingLawsUptoRow.holds Try.pinned (OpenSpec.upto naturalRingLawsSpec)

/-- 'grisaillelaw01.NaturalSqrt', WHERE WHAT IT READS IS OF BULK AT MOST 1048576: true; the input reads as it did. -/
def naturalSqrtUptoRow : OpenClaim := { program := "ytklohficlfnjfaa", sum := "916bf695ce79aab6270a0f3f5ce5dedd0b5bf610501156866e19671bb2e5ab51", func := "grisaille/grisaillelaw01.NaturalSqrt", spec := "naturalSqrt", apart := false, narrowed := true }
def NaturalSqrtUptoSaid : Prop := naturalSqrtUptoRow.holds Try.pinned (OpenSpec.upto naturalSqrtSpec)

end Rows
end Go.Proofs.Ytklohficlfnjfaa
