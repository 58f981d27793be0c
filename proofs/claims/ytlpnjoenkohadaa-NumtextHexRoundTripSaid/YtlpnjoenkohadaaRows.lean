/-
  No cell of these rows narrows 'for every input' (looked for: loops, veiled, ifaces, maps, wideKeys, modest, calm, conditions, laid).
  DERIVED. THE GIVEN ROWS OF THIS SEAT. 7 by the template 'for every input the law returns true; each argument reads behind the call as it read before'; 0 by the template 'total and deterministic' (their statements: YtlpnjoenkohadaaTotals.lean).
  GIVEN WITH THE SEED: the statements are not yours to turn. If you find one false, say at which input.
  Laid BY PROGRAM, IN A SANDBOX (cutbox-rows.mjs): the forced cells as the released guide's own fill.sh prints them over the translation 8cc5fcfe4ba9af0e… (all of the seat's roots in one cut). By AI agents, Wed Nov 11 2026. No macro, syntax, notation, axiom, sorry.
-/
import Derived.Test.YtlpnjoenkohadaaChecked
import GoSem.Claim
import GoSem.ClaimJoined
import GoSem.ClaimMapViews
import Derived.JoinedTies
import Derived.KernelRfl
namespace Go.Proofs.Ytlpnjoenkohadaa
/- THE CELL 'sum', in the pinned program and in every row, IS THE sha256 OF THE DUMP (.gsa) THAT YtlpnjoenkohadaaProg.lean LOADS. Nothing in Lean hashes anything: it is a label: what it is worth is what the hold of that sum in a sandbox is worth. -/
noncomputable def Try.pinned : Pinned := { name := "ytlpnjoenkohadaa", sum := "8cc5fcfe4ba9af0e2c43f7e184b3472c51e734e4e3fe67a45d977dfa3cbc6f49", checked := Try.checked }
namespace Rows
def none {H : Type} : Left H := { results := [], args := [] }

/-- 'grisaillelaw04.NumtextInts': WHATEVER THE INPUT: true; the input reads as it did. -/
def numtextIntsSpec : ChangeSpec := { name := "numtextInts", fn := fun _ => fun
  | [d1, d2, d3, d4] => { results := [.lit (.bool true)], args := [d1, d2, d3, d4] }
  | _ => none }
def numtextIntsRow : OpenClaim := { program := "ytlpnjoenkohadaa", sum := "8cc5fcfe4ba9af0e2c43f7e184b3472c51e734e4e3fe67a45d977dfa3cbc6f49", func := "grisaille/grisaillelaw04.NumtextInts", spec := "numtextInts", inPlace := ["internal/bytealg.IndexByteString", "internal/bytealg.IndexString"], unfollowed := true, recurses := true, named := ["internal/bytealg.MaxLen"], apart := false }
def NumtextIntsSaid : Prop := numtextIntsRow.holds Try.pinned (OpenSpec.ofChange numtextIntsSpec)

/-- ITS FALSE NEIGHBOUR: 'it returns false'. Refute it at one input. -/
def numtextIntsWrong : ChangeSpec := { name := "numtextInts", fn := fun _ => fun
  | [d1, d2, d3, d4] => { results := [.lit (.bool false)], args := [d1, d2, d3, d4] }
  | _ => none }
def NumtextIntsWrongFalsely : Prop := numtextIntsRow.holds Try.pinned (OpenSpec.ofChange numtextIntsWrong)

/-- 'grisaillelaw04.NumtextRationals': WHATEVER THE INPUT: true; the input reads as it did. -/
def numtextRationalsSpec : ChangeSpec := { name := "numtextRationals", fn := fun _ => fun
  | [d1, d2] => { results := [.lit (.bool true)], args := [d1, d2] }
  | _ => none }
def numtextRationalsRow : OpenClaim := { program := "ytlpnjoenkohadaa", sum := "8cc5fcfe4ba9af0e2c43f7e184b3472c51e734e4e3fe67a45d977dfa3cbc6f49", func := "grisaille/grisaillelaw04.NumtextRationals", spec := "numtextRationals", inPlace := ["internal/bytealg.IndexByteString", "internal/bytealg.IndexString"], unfollowed := true, recurses := true, named := ["internal/bytealg.MaxLen"], apart := false }
def NumtextRationalsSaid : Prop := numtextRationalsRow.holds Try.pinned (OpenSpec.ofChange numtextRationalsSpec)

/-- ITS FALSE NEIGHBOUR: 'it returns false'. Refute it at one input. -/
def numtextRationalsWrong : ChangeSpec := { name := "numtextRationals", fn := fun _ => fun
  | [d1, d2] => { results := [.lit (.bool false)], args := [d1, d2] }
  | _ => none }
def NumtextRationalsWrongFalsely : Prop := numtextRationalsRow.holds Try.pinned (OpenSpec.ofChange numtextRationalsWrong)

/-- 'grisaillelaw04.NumtextRoundTrip': WHATEVER THE INPUT: true; the input reads as it did. -/
def numtextRoundTripSpec : ChangeSpec := { name := "numtextRoundTrip", fn := fun _ => fun
  | [d1, d2, d3] => { results := [.lit (.bool true)], args := [d1, d2, d3] }
  | _ => none }
def numtextRoundTripRow : OpenClaim := { program := "ytlpnjoenkohadaa", sum := "8cc5fcfe4ba9af0e2c43f7e184b3472c51e734e4e3fe67a45d977dfa3cbc6f49", func := "grisaille/grisaillelaw04.NumtextRoundTrip", spec := "numtextRoundTrip", inPlace := ["internal/bytealg.IndexByteString", "internal/bytealg.IndexString"], unfollowed := true, recurses := true, named := ["internal/bytealg.MaxLen"], apart := false }
def NumtextRoundTripSaid : Prop := numtextRoundTripRow.holds Try.pinned (OpenSpec.ofChange numtextRoundTripSpec)

/-- ITS FALSE NEIGHBOUR: 'it returns false'. Refute it at one input. -/
def numtextRoundTripWrong : ChangeSpec := { name := "numtextRoundTrip", fn := fun _ => fun
  | [d1, d2, d3] => { results := [.lit (.bool false)], args := [d1, d2, d3] }
  | _ => none }
def NumtextRoundTripWrongFalsely : Prop := numtextRoundTripRow.holds Try.pinned (OpenSpec.ofChange numtextRoundTripWrong)

/-- 'grisaillelaw04.NumtextIntRange': WHATEVER THE INPUT: true; the input reads as it did. -/
def numtextIntRangeSpec : ChangeSpec := { name := "numtextIntRange", fn := fun _ => fun
  | [d1, d2, d3] => { results := [.lit (.bool true)], args := [d1, d2, d3] }
  | _ => none }
def numtextIntRangeRow : OpenClaim := { program := "ytlpnjoenkohadaa", sum := "8cc5fcfe4ba9af0e2c43f7e184b3472c51e734e4e3fe67a45d977dfa3cbc6f49", func := "grisaille/grisaillelaw04.NumtextIntRange", spec := "numtextIntRange", inPlace := ["internal/bytealg.IndexByteString", "internal/bytealg.IndexString"], unfollowed := true, recurses := true, named := ["internal/bytealg.MaxLen"], apart := false }
def NumtextIntRangeSaid : Prop := numtextIntRangeRow.holds Try.pinned (OpenSpec.ofChange numtextIntRangeSpec)

/-- ITS FALSE NEIGHBOUR: 'it returns false'. Refute it at one input. -/
def numtextIntRangeWrong : ChangeSpec := { name := "numtextIntRange", fn := fun _ => fun
  | [d1, d2, d3] => { results := [.lit (.bool false)], args := [d1, d2, d3] }
  | _ => none }
def NumtextIntRangeWrongFalsely : Prop := numtextIntRangeRow.holds Try.pinned (OpenSpec.ofChange numtextIntRangeWrong)

/-- 'grisaillelaw04.NumtextInjective': WHATEVER THE INPUT: true; the input reads as it did. -/
def numtextInjectiveSpec : ChangeSpec := { name := "numtextInjective", fn := fun _ => fun
  | [d1, d2, d3, d4] => { results := [.lit (.bool true)], args := [d1, d2, d3, d4] }
  | _ => none }
def numtextInjectiveRow : OpenClaim := { program := "ytlpnjoenkohadaa", sum := "8cc5fcfe4ba9af0e2c43f7e184b3472c51e734e4e3fe67a45d977dfa3cbc6f49", func := "grisaille/grisaillelaw04.NumtextInjective", spec := "numtextInjective", inPlace := ["internal/bytealg.IndexByteString", "internal/bytealg.IndexString"], unfollowed := true, recurses := true, named := ["internal/bytealg.MaxLen"], apart := false }
def NumtextInjectiveSaid : Prop := numtextInjectiveRow.holds Try.pinned (OpenSpec.ofChange numtextInjectiveSpec)

/-- ITS FALSE NEIGHBOUR: 'it returns false'. Refute it at one input. -/
def numtextInjectiveWrong : ChangeSpec := { name := "numtextInjective", fn := fun _ => fun
  | [d1, d2, d3, d4] => { results := [.lit (.bool false)], args := [d1, d2, d3, d4] }
  | _ => none }
def NumtextInjectiveWrongFalsely : Prop := numtextInjectiveRow.holds Try.pinned (OpenSpec.ofChange numtextInjectiveWrong)

/-- 'grisaillelaw04.NumtextHex': WHATEVER THE INPUT: true; the input reads as it did. -/
def numtextHexSpec : ChangeSpec := { name := "numtextHex", fn := fun _ => fun
  | [d1, d2] => { results := [.lit (.bool true)], args := [d1, d2] }
  | _ => none }
def numtextHexRow : OpenClaim := { program := "ytlpnjoenkohadaa", sum := "8cc5fcfe4ba9af0e2c43f7e184b3472c51e734e4e3fe67a45d977dfa3cbc6f49", func := "grisaille/grisaillelaw04.NumtextHex", spec := "numtextHex", inPlace := ["internal/bytealg.IndexByteString", "internal/bytealg.IndexString"], unfollowed := true, recurses := true, named := ["internal/bytealg.MaxLen"], apart := false }
def NumtextHexSaid : Prop := numtextHexRow.holds Try.pinned (OpenSpec.ofChange numtextHexSpec)

/-- ITS FALSE NEIGHBOUR: 'it returns false'. Refute it at one input. -/
def numtextHexWrong : ChangeSpec := { name := "numtextHex", fn := fun _ => fun
  | [d1, d2] => { results := [.lit (.bool false)], args := [d1, d2] }
  | _ => none }
def NumtextHexWrongFalsely : Prop := numtextHexRow.holds Try.pinned (OpenSpec.ofChange numtextHexWrong)

/-- 'grisaillelaw04.NumtextHexRoundTrip': WHATEVER THE INPUT: true; the input reads as it did. -/
def numtextHexRoundTripSpec : ChangeSpec := { name := "numtextHexRoundTrip", fn := fun _ => fun
  | [d1, d2] => { results := [.lit (.bool true)], args := [d1, d2] }
  | _ => none }
def numtextHexRoundTripRow : OpenClaim := { program := "ytlpnjoenkohadaa", sum := "8cc5fcfe4ba9af0e2c43f7e184b3472c51e734e4e3fe67a45d977dfa3cbc6f49", func := "grisaille/grisaillelaw04.NumtextHexRoundTrip", spec := "numtextHexRoundTrip", inPlace := ["internal/bytealg.IndexByteString", "internal/bytealg.IndexString"], unfollowed := true, recurses := true, named := ["internal/bytealg.MaxLen"], apart := false }
def NumtextHexRoundTripSaid : Prop := numtextHexRoundTripRow.holds Try.pinned (OpenSpec.ofChange numtextHexRoundTripSpec)

/-- ITS FALSE NEIGHBOUR: 'it returns false'. Refute it at one input. -/
def numtextHexRoundTripWrong : ChangeSpec := { name := "numtextHexRoundTrip", fn := fun _ => fun
  | [d1, d2] => { results := [.lit (.bool false)], args := [d1, d2] }
  | _ => none }
def NumtextHexRoundTripWrongFalsely : Prop := numtextHexRoundTripRow.holds Try.pinned (OpenSpec.ofChange numtextHexRoundTripWrong)

/- THE SECOND FORM. 'bulk': how many values and letters a reading holds, each counted each time it is reached (what is shared counts as often as it is met; a slice's spare places count too). A statement '..UptoSaid' is the law's where the arguments, and the package variables that the reading takes, are together of bulk at most 1048576: NARROWER than '..Said'. Prove '..Said' where nothing that the law and all that it calls make is longer than what came in: it says more and counts as full. Else prove '..UptoSaid'. A law counts once. -/
mutual
def uptoBulk {H : Type} : DataW H → Nat
  | .lit (.string bytes) => bytes.length + 1
  | .lit _ => 1
  | .nil => 1
  | .ptr d => uptoBulk d + 1
  | .slice elems spare => uptoBulkAll elems + uptoBulkAll spare + 1
  | .agg parts => uptoBulkAll parts + 1
  | .iface _ d => uptoBulk d + 1
  | .map entries => uptoBulkEntries entries + 1
  | .held _ => 1
def uptoBulkAll {H : Type} : List (DataW H) → Nat
  | [] => 0
  | d :: r => uptoBulk d + uptoBulkAll r
def uptoBulkEntries {H : Type} : List (Lit × DataW H) → Nat
  | [] => 0
  | x :: r => uptoBulkEntry x + uptoBulkEntries r
def uptoBulkEntry {H : Type} : Lit × DataW H → Nat
  | (.string bytes, d) => bytes.length + uptoBulk d + 1
  | (_, d) => uptoBulk d + 1
 end
def uptoSmall : (H : Type) → List (DataW H) → Bool := fun _ ds => decide (uptoBulkAll ds ≤ 1048576)
def OpenSpec.upto (s : _root_.Go.ChangeSpec) : _root_.Go.OpenSpec := { _root_.Go.OpenSpec.ofChange s with cond := some uptoSmall }

/-- 'grisaillelaw04.NumtextInts', WHERE WHAT IT READS IS OF BULK AT MOST 1048576: true; the input reads as it did. -/
def numtextIntsUptoRow : OpenClaim := { program := "ytlpnjoenkohadaa", sum := "8cc5fcfe4ba9af0e2c43f7e184b3472c51e734e4e3fe67a45d977dfa3cbc6f49", func := "grisaille/grisaillelaw04.NumtextInts", spec := "numtextInts", inPlace := ["internal/bytealg.IndexByteString", "internal/bytealg.IndexString"], unfollowed := true, recurses := true, named := ["internal/bytealg.MaxLen"], apart := false, narrowed := true }
def NumtextIntsUptoSaid : Prop := numtextIntsUptoRow.holds Try.pinned (OpenSpec.upto numtextIntsSpec)

/-- 'grisaillelaw04.NumtextRationals', WHERE WHAT IT READS IS OF BULK AT MOST 1048576: true; the input reads as it did. -/
def numtextRationalsUptoRow : OpenClaim := { program := "ytlpnjoenkohadaa", sum := "8cc5fcfe4ba9af0e2c43f7e184b3472c51e734e4e3fe67a45d977dfa3cbc6f49", func := "grisaille/grisaillelaw04.NumtextRationals", spec := "numtextRationals", inPlace := ["internal/bytealg.IndexByteString", "internal/bytealg.IndexString"], unfollowed := true, recurses := true, named := ["internal/bytealg.MaxLen"], apart := false, narrowed := true }
def NumtextRationalsUptoSaid : Prop := numtextRationalsUptoRow.holds Try.pinned (OpenSpec.upto numtextRationalsSpec)

/-- 'grisaillelaw04.NumtextRoundTrip', WHERE WHAT IT READS IS OF BULK AT MOST 1048576: true; the input reads as it did. -/
def numtextRoundTripUptoRow : OpenClaim := { program := "ytlpnjoenkohadaa", sum := "8cc5fcfe4ba9af0e2c43f7e184b3472c51e734e4e3fe67a45d977dfa3cbc6f49", func := "grisaille/grisaillelaw04.NumtextRoundTrip", spec := "numtextRoundTrip", inPlace := ["internal/bytealg.IndexByteString", "internal/bytealg.IndexString"], unfollowed := true, recurses := true, named := ["internal/bytealg.MaxLen"], apart := false, narrowed := true }
def NumtextRoundTripUptoSaid : Prop := numtextRoundTripUptoRow.holds Try.pinned (OpenSpec.upto numtextRoundTripSpec)

/-- 'grisaillelaw04.NumtextIntRange', WHERE WHAT IT READS IS OF BULK AT MOST 1048576: true; the input reads as it did. -/
def numtextIntRangeUptoRow : OpenClaim := { program := "ytlpnjoenkohadaa", sum := "8cc5fcfe4ba9af0e2c43f7e184b3472c51e734e4e3fe67a45d977dfa3cbc6f49", func := "grisaille/grisaillelaw04.NumtextIntRange", spec := "numtextIntRange", inPlace := ["internal/bytealg.IndexByteString", "internal/bytealg.IndexString"], unfollowed := true, recurses := true, named := ["internal/bytealg.MaxLen"], apart := false, narrowed := true }
def NumtextIntRangeUptoSaid : Prop := numtextIntRangeUptoRow.holds Try.pinned (OpenSpec.upto numtextIntRangeSpec)

/-- 'grisaillelaw04.NumtextInjective', WHERE WHAT IT READS IS OF BULK AT MOST 1048576: true; the input reads as it did. -/
def numtextInjectiveUptoRow : OpenClaim := { program := "ytlpnjoenkohadaa", sum := "8cc5fcfe4ba9af0e2c43f7e184b3472c51e734e4e3fe67a45d977dfa3cbc6f49", func := "grisaille/grisaillelaw04.NumtextInjective", spec := "numtextInjective", inPlace := ["internal/bytealg.IndexByteString", "internal/bytealg.IndexString"], unfollowed := true, recurses := true, named := ["internal/bytealg.MaxLen"], apart := false, narrowed := true }
def NumtextInjectiveUptoSaid : Prop := numtextInjectiveUptoRow.holds Try.pinned (OpenSpec.upto numtextInjectiveSpec)

/-- 'grisaillelaw04.NumtextHex', WHERE WHAT IT READS IS OF BULK AT MOST 1048576: true; the input reads as it did. -/
def numtextHexUptoRow : OpenClaim := { program := "ytlpnjoenkohadaa", sum := "8cc5fcfe4ba9af0e2c43f7e184b3472c51e734e4e3fe67a45d977dfa3cbc6f49", func := "grisaille/grisaillelaw04.NumtextHex", spec := "numtextHex", inPlace := ["internal/bytealg.IndexByteString", "internal/bytealg.IndexString"], unfollowed := true, recurses := true, named := ["internal/bytealg.MaxLen"], apart := false, narrowed := true }
def NumtextHexUptoSaid : Prop := numtextHexUptoRow.holds Try.pinned (OpenSpec.upto numtextHexSpec)

/-- 'grisaillelaw04.NumtextHexRoundTrip', WHERE WHAT IT READS IS OF BULK AT MOST 1048576: true; the input reads as it did. -/
def numtextHexRoundTripUptoRow : OpenClaim := { program := "ytlpnjoenkohadaa", sum := "8cc5fcfe4ba9af0e2c43f7e184b3472c51e734e4e3fe67a45d977dfa3cbc6f49", func := "grisaille/grisaillelaw04.NumtextHexRoundTrip", spec := "numtextHexRoundTrip", inPlace := ["internal/bytealg.IndexByteString", "internal/bytealg.IndexString"], unfollowed := true, recurses := true, named := ["internal/bytealg.MaxLen"], apart := false, narrowed := true }
def NumtextHexRoundTripUptoSaid : Prop := numtextHexRoundTripUptoRow.holds Try.pinned (OpenSpec.upto numtextHexRoundTripSpec)

end Rows
end Go.Proofs.Ytlpnjoenkohadaa
