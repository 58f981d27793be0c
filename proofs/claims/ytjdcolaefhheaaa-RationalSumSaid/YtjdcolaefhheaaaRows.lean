/-
  No cell of these rows narrows 'for every input' (looked for: loops, veiled, ifaces, maps, wideKeys, modest, calm, conditions, laid).
  DERIVED. THE GIVEN ROWS OF THIS SEAT. 12 by the template 'for every input the law returns true; each argument reads behind the call as it read before'; 0 by the template 'total and deterministic' (their statements: YtjdcolaefhheaaaTotals.lean).
  GIVEN WITH THE SEED: the statements are not yours to turn. If you find one false, say at which input.
  Laid BY PROGRAM, IN A SANDBOX (cutbox-rows.mjs): the forced cells as the released guide's own fill.sh prints them over the translation 523de3bac6a91bad… (all of the seat's roots in one cut). By AI agents, Wed Nov 11 2026. No macro, syntax, notation, axiom, sorry.
-/
import Derived.Test.YtjdcolaefhheaaaChecked
import GoSem.Claim
import GoSem.ClaimJoined
import GoSem.ClaimMapViews
import Derived.JoinedTies
import Derived.KernelRfl
namespace Go.Proofs.Ytjdcolaefhheaaa
/- THE CELL 'sum', in the pinned program and in every row, IS THE sha256 OF THE DUMP (.gsa) THAT YtjdcolaefhheaaaProg.lean LOADS. Nothing in Lean hashes anything: it is a label: what it is worth is what the hold of that sum in a sandbox is worth. -/
noncomputable def Try.pinned : Pinned := { name := "ytjdcolaefhheaaa", sum := "523de3bac6a91badaad9495f11373bda7724fb02fd2fc6912f74e7c74555928f", checked := Try.checked }
namespace Rows
def none {H : Type} : Left H := { results := [], args := [] }

/-- 'grisaillelaw03.RationalNew': WHATEVER THE INPUT: true; the input reads as it did. -/
def rationalNewSpec : ChangeSpec := { name := "rationalNew", fn := fun _ => fun
  | [d] => { results := [.lit (.bool true)], args := [d] }
  | _ => none }
def rationalNewRow : OpenClaim := { program := "ytjdcolaefhheaaa", sum := "523de3bac6a91badaad9495f11373bda7724fb02fd2fc6912f74e7c74555928f", func := "grisaille/grisaillelaw03.RationalNew", spec := "rationalNew", unfollowed := true, recurses := true, apart := false }
def RationalNewSaid : Prop := rationalNewRow.holds Try.pinned (OpenSpec.ofChange rationalNewSpec)

/-- ITS FALSE NEIGHBOUR: 'it returns false'. Refute it at one input. -/
def rationalNewWrong : ChangeSpec := { name := "rationalNew", fn := fun _ => fun
  | [d] => { results := [.lit (.bool false)], args := [d] }
  | _ => none }
def RationalNewWrongFalsely : Prop := rationalNewRow.holds Try.pinned (OpenSpec.ofChange rationalNewWrong)

/-- 'grisaillelaw03.RationalFromInts': WHATEVER THE INPUT: true; the input reads as it did. -/
def rationalFromIntsSpec : ChangeSpec := { name := "rationalFromInts", fn := fun _ => fun
  | [d1, d2] => { results := [.lit (.bool true)], args := [d1, d2] }
  | _ => none }
def rationalFromIntsRow : OpenClaim := { program := "ytjdcolaefhheaaa", sum := "523de3bac6a91badaad9495f11373bda7724fb02fd2fc6912f74e7c74555928f", func := "grisaille/grisaillelaw03.RationalFromInts", spec := "rationalFromInts", unfollowed := true, recurses := true, apart := false }
def RationalFromIntsSaid : Prop := rationalFromIntsRow.holds Try.pinned (OpenSpec.ofChange rationalFromIntsSpec)

/-- ITS FALSE NEIGHBOUR: 'it returns false'. Refute it at one input. -/
def rationalFromIntsWrong : ChangeSpec := { name := "rationalFromInts", fn := fun _ => fun
  | [d1, d2] => { results := [.lit (.bool false)], args := [d1, d2] }
  | _ => none }
def RationalFromIntsWrongFalsely : Prop := rationalFromIntsRow.holds Try.pinned (OpenSpec.ofChange rationalFromIntsWrong)

/-- 'grisaillelaw03.RationalSum': WHATEVER THE INPUT: true; the input reads as it did. -/
def rationalSumSpec : ChangeSpec := { name := "rationalSum", fn := fun _ => fun
  | [d] => { results := [.lit (.bool true)], args := [d] }
  | _ => none }
def rationalSumRow : OpenClaim := { program := "ytjdcolaefhheaaa", sum := "523de3bac6a91badaad9495f11373bda7724fb02fd2fc6912f74e7c74555928f", func := "grisaille/grisaillelaw03.RationalSum", spec := "rationalSum", unfollowed := true, recurses := true, apart := false }
def RationalSumSaid : Prop := rationalSumRow.holds Try.pinned (OpenSpec.ofChange rationalSumSpec)

/-- ITS FALSE NEIGHBOUR: 'it returns false'. Refute it at one input. -/
def rationalSumWrong : ChangeSpec := { name := "rationalSum", fn := fun _ => fun
  | [d] => { results := [.lit (.bool false)], args := [d] }
  | _ => none }
def RationalSumWrongFalsely : Prop := rationalSumRow.holds Try.pinned (OpenSpec.ofChange rationalSumWrong)

/-- 'grisaillelaw03.RationalField': WHATEVER THE INPUT: true; the input reads as it did. -/
def rationalFieldSpec : ChangeSpec := { name := "rationalField", fn := fun _ => fun
  | [d1, d2, d3] => { results := [.lit (.bool true)], args := [d1, d2, d3] }
  | _ => none }
def rationalFieldRow : OpenClaim := { program := "ytjdcolaefhheaaa", sum := "523de3bac6a91badaad9495f11373bda7724fb02fd2fc6912f74e7c74555928f", func := "grisaille/grisaillelaw03.RationalField", spec := "rationalField", unfollowed := true, recurses := true, apart := false }
def RationalFieldSaid : Prop := rationalFieldRow.holds Try.pinned (OpenSpec.ofChange rationalFieldSpec)

/-- ITS FALSE NEIGHBOUR: 'it returns false'. Refute it at one input. -/
def rationalFieldWrong : ChangeSpec := { name := "rationalField", fn := fun _ => fun
  | [d1, d2, d3] => { results := [.lit (.bool false)], args := [d1, d2, d3] }
  | _ => none }
def RationalFieldWrongFalsely : Prop := rationalFieldRow.holds Try.pinned (OpenSpec.ofChange rationalFieldWrong)

/-- 'grisaillelaw02.IntegerArithmetic': WHATEVER THE INPUT: true; the input reads as it did. -/
def integerArithmeticSpec : ChangeSpec := { name := "integerArithmetic", fn := fun _ => fun
  | [d1, d2] => { results := [.lit (.bool true)], args := [d1, d2] }
  | _ => none }
def integerArithmeticRow : OpenClaim := { program := "ytjdcolaefhheaaa", sum := "523de3bac6a91badaad9495f11373bda7724fb02fd2fc6912f74e7c74555928f", func := "grisaille/grisaillelaw02.IntegerArithmetic", spec := "integerArithmetic", unfollowed := true, recurses := true, apart := false }
def IntegerArithmeticSaid : Prop := integerArithmeticRow.holds Try.pinned (OpenSpec.ofChange integerArithmeticSpec)

/-- ITS FALSE NEIGHBOUR: 'it returns false'. Refute it at one input. -/
def integerArithmeticWrong : ChangeSpec := { name := "integerArithmetic", fn := fun _ => fun
  | [d1, d2] => { results := [.lit (.bool false)], args := [d1, d2] }
  | _ => none }
def IntegerArithmeticWrongFalsely : Prop := integerArithmeticRow.holds Try.pinned (OpenSpec.ofChange integerArithmeticWrong)

/-- 'grisaillelaw02.IntegerDivision': WHATEVER THE INPUT: true; the input reads as it did. -/
def integerDivisionSpec : ChangeSpec := { name := "integerDivision", fn := fun _ => fun
  | [d1, d2] => { results := [.lit (.bool true)], args := [d1, d2] }
  | _ => none }
def integerDivisionRow : OpenClaim := { program := "ytjdcolaefhheaaa", sum := "523de3bac6a91badaad9495f11373bda7724fb02fd2fc6912f74e7c74555928f", func := "grisaille/grisaillelaw02.IntegerDivision", spec := "integerDivision", unfollowed := true, recurses := true, apart := false }
def IntegerDivisionSaid : Prop := integerDivisionRow.holds Try.pinned (OpenSpec.ofChange integerDivisionSpec)

/-- ITS FALSE NEIGHBOUR: 'it returns false'. Refute it at one input. -/
def integerDivisionWrong : ChangeSpec := { name := "integerDivision", fn := fun _ => fun
  | [d1, d2] => { results := [.lit (.bool false)], args := [d1, d2] }
  | _ => none }
def IntegerDivisionWrongFalsely : Prop := integerDivisionRow.holds Try.pinned (OpenSpec.ofChange integerDivisionWrong)

/-- 'grisaillelaw02.IntegerText': WHATEVER THE INPUT: true; the input reads as it did. -/
def integerTextSpec : ChangeSpec := { name := "integerText", fn := fun _ => fun
  | [d1, d2] => { results := [.lit (.bool true)], args := [d1, d2] }
  | _ => none }
def integerTextRow : OpenClaim := { program := "ytjdcolaefhheaaa", sum := "523de3bac6a91badaad9495f11373bda7724fb02fd2fc6912f74e7c74555928f", func := "grisaille/grisaillelaw02.IntegerText", spec := "integerText", unfollowed := true, recurses := true, apart := false }
def IntegerTextSaid : Prop := integerTextRow.holds Try.pinned (OpenSpec.ofChange integerTextSpec)

/-- ITS FALSE NEIGHBOUR: 'it returns false'. Refute it at one input. -/
def integerTextWrong : ChangeSpec := { name := "integerText", fn := fun _ => fun
  | [d1, d2] => { results := [.lit (.bool false)], args := [d1, d2] }
  | _ => none }
def IntegerTextWrongFalsely : Prop := integerTextRow.holds Try.pinned (OpenSpec.ofChange integerTextWrong)

/-- 'grisaillelaw02.IntegerDivMod': WHATEVER THE INPUT: true; the input reads as it did. -/
def integerDivModSpec : ChangeSpec := { name := "integerDivMod", fn := fun _ => fun
  | [d1, d2] => { results := [.lit (.bool true)], args := [d1, d2] }
  | _ => none }
def integerDivModRow : OpenClaim := { program := "ytjdcolaefhheaaa", sum := "523de3bac6a91badaad9495f11373bda7724fb02fd2fc6912f74e7c74555928f", func := "grisaille/grisaillelaw02.IntegerDivMod", spec := "integerDivMod", unfollowed := true, recurses := true, apart := false }
def IntegerDivModSaid : Prop := integerDivModRow.holds Try.pinned (OpenSpec.ofChange integerDivModSpec)

/-- ITS FALSE NEIGHBOUR: 'it returns false'. Refute it at one input. -/
def integerDivModWrong : ChangeSpec := { name := "integerDivMod", fn := fun _ => fun
  | [d1, d2] => { results := [.lit (.bool false)], args := [d1, d2] }
  | _ => none }
def IntegerDivModWrongFalsely : Prop := integerDivModRow.holds Try.pinned (OpenSpec.ofChange integerDivModWrong)

/-- 'grisaillelaw02.IntegerRing': WHATEVER THE INPUT: true; the input reads as it did. -/
def integerRingSpec : ChangeSpec := { name := "integerRing", fn := fun _ => fun
  | [d1, d2, d3] => { results := [.lit (.bool true)], args := [d1, d2, d3] }
  | _ => none }
def integerRingRow : OpenClaim := { program := "ytjdcolaefhheaaa", sum := "523de3bac6a91badaad9495f11373bda7724fb02fd2fc6912f74e7c74555928f", func := "grisaille/grisaillelaw02.IntegerRing", spec := "integerRing", unfollowed := true, recurses := true, apart := false }
def IntegerRingSaid : Prop := integerRingRow.holds Try.pinned (OpenSpec.ofChange integerRingSpec)

/-- ITS FALSE NEIGHBOUR: 'it returns false'. Refute it at one input. -/
def integerRingWrong : ChangeSpec := { name := "integerRing", fn := fun _ => fun
  | [d1, d2, d3] => { results := [.lit (.bool false)], args := [d1, d2, d3] }
  | _ => none }
def IntegerRingWrongFalsely : Prop := integerRingRow.holds Try.pinned (OpenSpec.ofChange integerRingWrong)

/-- 'grisaillelaw03.RationalArithmetic': WHATEVER THE INPUT: true; the input reads as it did. -/
def rationalArithmeticSpec : ChangeSpec := { name := "rationalArithmetic", fn := fun _ => fun
  | [d1, d2] => { results := [.lit (.bool true)], args := [d1, d2] }
  | _ => none }
def rationalArithmeticRow : OpenClaim := { program := "ytjdcolaefhheaaa", sum := "523de3bac6a91badaad9495f11373bda7724fb02fd2fc6912f74e7c74555928f", func := "grisaille/grisaillelaw03.RationalArithmetic", spec := "rationalArithmetic", unfollowed := true, recurses := true, apart := false }
def RationalArithmeticSaid : Prop := rationalArithmeticRow.holds Try.pinned (OpenSpec.ofChange rationalArithmeticSpec)

/-- ITS FALSE NEIGHBOUR: 'it returns false'. Refute it at one input. -/
def rationalArithmeticWrong : ChangeSpec := { name := "rationalArithmetic", fn := fun _ => fun
  | [d1, d2] => { results := [.lit (.bool false)], args := [d1, d2] }
  | _ => none }
def RationalArithmeticWrongFalsely : Prop := rationalArithmeticRow.holds Try.pinned (OpenSpec.ofChange rationalArithmeticWrong)

/-- 'grisaillelaw03.RationalRounding': WHATEVER THE INPUT: true; the input reads as it did. -/
def rationalRoundingSpec : ChangeSpec := { name := "rationalRounding", fn := fun _ => fun
  | [d] => { results := [.lit (.bool true)], args := [d] }
  | _ => none }
def rationalRoundingRow : OpenClaim := { program := "ytjdcolaefhheaaa", sum := "523de3bac6a91badaad9495f11373bda7724fb02fd2fc6912f74e7c74555928f", func := "grisaille/grisaillelaw03.RationalRounding", spec := "rationalRounding", unfollowed := true, recurses := true, apart := false }
def RationalRoundingSaid : Prop := rationalRoundingRow.holds Try.pinned (OpenSpec.ofChange rationalRoundingSpec)

/-- ITS FALSE NEIGHBOUR: 'it returns false'. Refute it at one input. -/
def rationalRoundingWrong : ChangeSpec := { name := "rationalRounding", fn := fun _ => fun
  | [d] => { results := [.lit (.bool false)], args := [d] }
  | _ => none }
def RationalRoundingWrongFalsely : Prop := rationalRoundingRow.holds Try.pinned (OpenSpec.ofChange rationalRoundingWrong)

/-- 'grisaillelaw02.IntegerConstructors': WHATEVER THE INPUT: true; the input reads as it did. -/
def integerConstructorsSpec : ChangeSpec := { name := "integerConstructors", fn := fun _ => fun
  | [d1, d2, d3] => { results := [.lit (.bool true)], args := [d1, d2, d3] }
  | _ => none }
def integerConstructorsRow : OpenClaim := { program := "ytjdcolaefhheaaa", sum := "523de3bac6a91badaad9495f11373bda7724fb02fd2fc6912f74e7c74555928f", func := "grisaille/grisaillelaw02.IntegerConstructors", spec := "integerConstructors", unfollowed := true, recurses := true, apart := false }
def IntegerConstructorsSaid : Prop := integerConstructorsRow.holds Try.pinned (OpenSpec.ofChange integerConstructorsSpec)

/-- ITS FALSE NEIGHBOUR: 'it returns false'. Refute it at one input. -/
def integerConstructorsWrong : ChangeSpec := { name := "integerConstructors", fn := fun _ => fun
  | [d1, d2, d3] => { results := [.lit (.bool false)], args := [d1, d2, d3] }
  | _ => none }
def IntegerConstructorsWrongFalsely : Prop := integerConstructorsRow.holds Try.pinned (OpenSpec.ofChange integerConstructorsWrong)

/- THE SECOND FORM. 'bulk': how many values and letters a reading holds, each counted each time it is reached (what is shared counts as often as it is met; a slice's spare places count too). A statement '..UptoSaid' is the law's where the arguments, and the package variables that the reading takes, are together of bulk at most 1048576: NARROWER than '..Said'. Prove '..Said' where nothing that the law and all that it calls make is longer than what came in: it says more and counts as full. Else prove '..UptoSaid'. A law counts once. -/
mutual
def uptoBulk {H : Type} : DataW H → Nat
  | .lit (.string bytes) => bytes.length + 1
  | .lit _ => 1
  | .nil => 1
  | .ptr d => uptoBulk d + 1
  | .slice elems spare => uptoBulkAll elems + uptoBulkAll spare + 1
  | .agg parts => uptoBulkAll parts + 1
  | .iface _ d => uptoBulk d + 1
  | .map entries => uptoBulkEntries entries + 1
  | .held _ => 1
def uptoBulkAll {H : Type} : List (DataW H) → Nat
  | [] => 0
  | d :: r => uptoBulk d + uptoBulkAll r
def uptoBulkEntries {H : Type} : List (Lit × DataW H) → Nat
  | [] => 0
  | x :: r => uptoBulkEntry x + uptoBulkEntries r
def uptoBulkEntry {H : Type} : Lit × DataW H → Nat
  | (.string bytes, d) => bytes.length + uptoBulk d + 1
  | (_, d) => uptoBulk d + 1
 end
def uptoSmall : (H : Type) → List (DataW H) → Bool := fun _ ds => decide (uptoBulkAll ds ≤ 1048576)
def OpenSpec.upto (s : _root_.Go.ChangeSpec) : _root_.Go.OpenSpec := { _root_.Go.OpenSpec.ofChange s with cond := some uptoSmall }

/-- 'grisaillelaw03.RationalNew', WHERE WHAT IT READS IS OF BULK AT MOST 1048576: true; the input reads as it did. -/
def rationalNewUptoRow : OpenClaim := { program := "ytjdcolaefhheaaa", sum := "523de3bac6a91badaad9495f11373bda7724fb02fd2fc6912f74e7c74555928f", func := "grisaille/grisaillelaw03.RationalNew", spec := "rationalNew", unfollowed := true, recurses := true, apart := false, narrowed := true }
def RationalNewUptoSaid : Prop := rationalNewUptoRow.holds Try.pinned (OpenSpec.upto rationalNewSpec)

/-- 'grisaillelaw03.RationalFromInts', WHERE WHAT IT READS IS OF BULK AT MOST 1048576: true; the input reads as it did. -/
def rationalFromIntsUptoRow : OpenClaim := { program := "ytjdcolaefhheaaa", sum := "523de3bac6a91badaad9495f11373bda7724fb02fd2fc6912f74e7c74555928f", func := "grisaille/grisaillelaw03.RationalFromInts", spec := "rationalFromInts", unfollowed := true, recurses := true, apart := false, narrowed := true }
def RationalFromIntsUptoSaid : Prop := rationalFromIntsUptoRow.holds Try.pinned (OpenSpec.upto rationalFromIntsSpec)

/-- 'grisaillelaw03.RationalSum', WHERE WHAT IT READS IS OF BULK AT MOST 1048576: true; the input reads as it did. -/
def rationalSumUptoRow : OpenClaim := { program := "ytjdcolaefhheaaa", sum := "523de3bac6a91badaad9495f11373bda7724fb02fd2fc6912f74e7c74555928f", func := "grisaille/grisaillelaw03.RationalSum", spec := "rationalSum", unfollowed := true, recurses := true, apart := false, narrowed := true }
def RationalSumUptoSaid : Prop := rationalSumUptoRow.holds Try.pinned (OpenSpec.upto rationalSumSpec)

/-- 'grisaillelaw03.RationalField', WHERE WHAT IT READS IS OF BULK AT MOST 1048576: true; the input reads as it did. -/
def rationalFieldUptoRow : OpenClaim := { program := "ytjdcolaefhheaaa", sum := "523de3bac6a91badaad9495f11373bda7724fb02fd2fc6912f74e7c74555928f", func := "grisaille/grisaillelaw03.RationalField", spec := "rationalField", unfollowed := true, recurses := true, apart := false, narrowed := true }
def RationalFieldUptoSaid : Prop := rationalFieldUptoRow.holds Try.pinned (OpenSpec.upto rationalFieldSpec)

/-- 'grisaillelaw02.IntegerArithmetic', WHERE WHAT IT READS IS OF BULK AT MOST 1048576: true; the input reads as it did. -/
def integerArithmeticUptoRow : OpenClaim := { program := "ytjdcolaefhheaaa", sum := "523de3bac6a91badaad9495f11373bda7724fb02fd2fc6912f74e7c74555928f", func := "grisaille/grisaillelaw02.IntegerArithmetic", spec := "integerArithmetic", unfollowed := true, recurses := true, apart := false, narrowed := true }
def IntegerArithmeticUptoSaid : Prop := integerArithmeticUptoRow.holds Try.pinned (OpenSpec.upto integerArithmeticSpec)

/-- 'grisaillelaw02.IntegerDivision', WHERE WHAT IT READS IS OF BULK AT MOST 1048576: true; the input reads as it did. -/
def integerDivisionUptoRow : OpenClaim := { program := "ytjdcolaefhheaaa", sum := "523de3bac6a91badaad9495f11373bda7724fb02fd2fc6912f74e7c74555928f", func := "grisaille/grisaillelaw02.IntegerDivision", spec := "integerDivision", unfollowed := true, recurses := true, apart := false, narrowed := true }
def IntegerDivisionUptoSaid : Prop := integerDivisionUptoRow.holds Try.pinned (OpenSpec.upto integerDivisionSpec)

/-- 'grisaillelaw02.IntegerText', WHERE WHAT IT READS IS OF BULK AT MOST 1048576: true; the input reads as it did. -/
def integerTextUptoRow : OpenClaim := { program := "ytjdcolaefhheaaa", sum := "523de3bac6a91badaad9495f11373bda7724fb02fd2fc6912f74e7c74555928f", func := "grisaille/grisaillelaw02.IntegerText", spec := "integerText", unfollowed := true, recurses := true, apart := false, narrowed := true }
def IntegerTextUptoSaid : Prop := integerTextUptoRow.holds Try.pinned (OpenSpec.upto integerTextSpec)

/-- 'grisaillelaw02.IntegerDivMod', WHERE WHAT IT READS IS OF BULK AT MOST 1048576: true; the input reads as it did. -/
def integerDivModUptoRow : OpenClaim := { program := "ytjdcolaefhheaaa", sum := "523de3bac6a91badaad9495f11373bda7724fb02fd2fc6912f74e7c74555928f", func := "grisaille/grisaillelaw02.IntegerDivMod", spec := "integerDivMod", unfollowed := true, recurses := true, apart := false, narrowed := true }
def IntegerDivModUptoSaid : Prop := integerDivModUptoRow.holds Try.pinned (OpenSpec.upto integerDivModSpec)

/-- 'grisaillelaw02.IntegerRing', WHERE WHAT IT READS IS OF BULK AT MOST 1048576: true; the input reads as it did. -/
def integerRingUptoRow : OpenClaim := { program := "ytjdcolaefhheaaa", sum := "523de3bac6a91badaad9495f11373bda7724fb02fd2fc6912f74e7c74555928f", func := "grisaille/grisaillelaw02.IntegerRing", spec := "integerRing", unfollowed := true, recurses := true, apart := false, narrowed := true }
def IntegerRingUptoSaid : Prop := integerRingUptoRow.holds Try.pinned (OpenSpec.upto integerRingSpec)

/-- 'grisaillelaw03.RationalArithmetic', WHERE WHAT IT READS IS OF BULK AT MOST 1048576: true; the input reads as it did. -/
def rationalArithmeticUptoRow : OpenClaim := { program := "ytjdcolaefhheaaa", sum := "523de3bac6a91badaad9495f11373bda7724fb02fd2fc6912f74e7c74555928f", func := "grisaille/grisaillelaw03.RationalArithmetic", spec := "rationalArithmetic", unfollowed := true, recurses := true, apart := false, narrowed := true }
def RationalArithmeticUptoSaid : Prop := rationalArithmeticUptoRow.holds Try.pinned (OpenSpec.upto rationalArithmeticSpec)

/-- 'grisaillelaw03.RationalRounding', WHERE WHAT IT READS IS OF BULK AT MOST 1048576: true; the input reads as it did. -/
def rationalRoundingUptoRow : OpenClaim := { program := "ytjdcolaefhheaaa", sum := "523de3bac6a91badaad9495f11373bda7724fb02fd2fc6912f74e7c74555928f", func := "grisaille/grisaillelaw03.RationalRounding", spec := "rationalRounding", unfollowed := true, recurses := true, apart := false, narrowed := true }
def RationalRoundingUptoSaid : Prop := rationalRoundingUptoRow.holds Try.pinned (OpenSpec.upto rationalRoundingSpec)

/-- 'grisaillelaw02.IntegerConstructors', WHERE WHAT IT READS IS OF BULK AT MOST 1048576: true; the input reads as it did. -/
def integerConstructorsUptoRow : OpenClaim := { program := "ytjdcolaefhheaaa", sum := "523de3bac6a91badaad9495f11373bda7724fb02fd2fc6912f74e7c74555928f", func := "grisaille/grisaillelaw02.IntegerConstructors", spec := "integerConstructors", unfollowed := true, recurses := true, apart := false, narrowed := true }
def IntegerConstructorsUptoSaid : Prop := integerConstructorsUptoRow.holds Try.pinned (OpenSpec.upto integerConstructorsSpec)

end Rows
end Go.Proofs.Ytjdcolaefhheaaa
