/-
  No cell of these rows narrows 'for every input' (looked for: loops, veiled, ifaces, maps, wideKeys, modest, calm, conditions, laid).
  DERIVED. THE GIVEN ROWS OF THIS SEAT. 12 by the template 'for every input the law returns true; each argument reads behind the call as it read before'; 0 by the template 'total and deterministic' (their statements: YthekmbikolpmlaaTotals.lean).
  GIVEN WITH THE SEED: the statements are not yours to turn. If you find one false, say at which input.
  Laid BY PROGRAM, IN A SANDBOX (cutbox-rows.mjs): the forced cells as the released guide's own fill.sh prints them over the translation bf1b49488a4f16b7… (all of the seat's roots in one cut). By AI agents, Wed Nov 11 2026. No macro, syntax, notation, axiom, sorry.
-/
import Derived.Test.YthekmbikolpmlaaChecked
import GoSem.Claim
import GoSem.ClaimJoined
import GoSem.ClaimMapViews
import Derived.JoinedTies
import Derived.KernelRfl
namespace Go.Proofs.Ythekmbikolpmlaa
/- THE CELL 'sum', in the pinned program and in every row, IS THE sha256 OF THE DUMP (.gsa) THAT YthekmbikolpmlaaProg.lean LOADS. Nothing in Lean hashes anything: it is a label: what it is worth is what the hold of that sum in a sandbox is worth. -/
noncomputable def Try.pinned : Pinned := { name := "ythekmbikolpmlaa", sum := "bf1b49488a4f16b7cdd20fcf20dd57b6bb65d26ee28c20a59dbf535b20fc76a7", checked := Try.checked }
namespace Rows
def none {H : Type} : Left H := { results := [], args := [] }

/-- 'stearinlaw02.BlendChecks': WHATEVER THE INPUT: true; the input reads as it did. -/
def blendChecksSpec : ChangeSpec := { name := "blendChecks", fn := fun _ => fun
  | [d1, d2] => { results := [.lit (.bool true)], args := [d1, d2] }
  | _ => none }
def blendChecksRow : OpenClaim := { program := "ythekmbikolpmlaa", sum := "bf1b49488a4f16b7cdd20fcf20dd57b6bb65d26ee28c20a59dbf535b20fc76a7", func := "stearin/stearinlaw02.BlendChecks", spec := "blendChecks", unfollowed := true, recurses := true, apart := false }
def BlendChecksSaid : Prop := blendChecksRow.holds Try.pinned (OpenSpec.ofChange blendChecksSpec)

/-- ITS FALSE NEIGHBOUR: 'it returns false'. Refute it at one input. -/
def blendChecksWrong : ChangeSpec := { name := "blendChecks", fn := fun _ => fun
  | [d1, d2] => { results := [.lit (.bool false)], args := [d1, d2] }
  | _ => none }
def BlendChecksWrongFalsely : Prop := blendChecksRow.holds Try.pinned (OpenSpec.ofChange blendChecksWrong)

/-- 'stearinlaw02.BlendValues': WHATEVER THE INPUT: true; the input reads as it did. -/
def blendValuesSpec : ChangeSpec := { name := "blendValues", fn := fun _ => fun
  | [d1, d2, d3] => { results := [.lit (.bool true)], args := [d1, d2, d3] }
  | _ => none }
def blendValuesRow : OpenClaim := { program := "ythekmbikolpmlaa", sum := "bf1b49488a4f16b7cdd20fcf20dd57b6bb65d26ee28c20a59dbf535b20fc76a7", func := "stearin/stearinlaw02.BlendValues", spec := "blendValues", unfollowed := true, recurses := true, apart := false }
def BlendValuesSaid : Prop := blendValuesRow.holds Try.pinned (OpenSpec.ofChange blendValuesSpec)

/-- ITS FALSE NEIGHBOUR: 'it returns false'. Refute it at one input. -/
def blendValuesWrong : ChangeSpec := { name := "blendValues", fn := fun _ => fun
  | [d1, d2, d3] => { results := [.lit (.bool false)], args := [d1, d2, d3] }
  | _ => none }
def BlendValuesWrongFalsely : Prop := blendValuesRow.holds Try.pinned (OpenSpec.ofChange blendValuesWrong)

/-- 'stearinlaw02.BlendWishes': WHATEVER THE INPUT: true; the input reads as it did. -/
def blendWishesSpec : ChangeSpec := { name := "blendWishes", fn := fun _ => fun
  | [d1, d2, d3] => { results := [.lit (.bool true)], args := [d1, d2, d3] }
  | _ => none }
def blendWishesRow : OpenClaim := { program := "ythekmbikolpmlaa", sum := "bf1b49488a4f16b7cdd20fcf20dd57b6bb65d26ee28c20a59dbf535b20fc76a7", func := "stearin/stearinlaw02.BlendWishes", spec := "blendWishes", unfollowed := true, recurses := true, apart := false }
def BlendWishesSaid : Prop := blendWishesRow.holds Try.pinned (OpenSpec.ofChange blendWishesSpec)

/-- ITS FALSE NEIGHBOUR: 'it returns false'. Refute it at one input. -/
def blendWishesWrong : ChangeSpec := { name := "blendWishes", fn := fun _ => fun
  | [d1, d2, d3] => { results := [.lit (.bool false)], args := [d1, d2, d3] }
  | _ => none }
def BlendWishesWrongFalsely : Prop := blendWishesRow.holds Try.pinned (OpenSpec.ofChange blendWishesWrong)

/-- 'stearinlaw02.BlendKnown': WHATEVER THE INPUT: true; the input reads as it did. -/
def blendKnownSpec : ChangeSpec := { name := "blendKnown", fn := fun _ => fun
  | [] => { results := [.lit (.bool true)], args := [] }
  | _ => none }
def blendKnownRow : OpenClaim := { program := "ythekmbikolpmlaa", sum := "bf1b49488a4f16b7cdd20fcf20dd57b6bb65d26ee28c20a59dbf535b20fc76a7", func := "stearin/stearinlaw02.BlendKnown", spec := "blendKnown", unfollowed := true, recurses := true, apart := false }
def BlendKnownSaid : Prop := blendKnownRow.holds Try.pinned (OpenSpec.ofChange blendKnownSpec)

/-- ITS FALSE NEIGHBOUR: 'it returns false'. Refute it at one input. -/
def blendKnownWrong : ChangeSpec := { name := "blendKnown", fn := fun _ => fun
  | [] => { results := [.lit (.bool false)], args := [] }
  | _ => none }
def BlendKnownWrongFalsely : Prop := blendKnownRow.holds Try.pinned (OpenSpec.ofChange blendKnownWrong)

/-- 'stearinlaw02.BlendLots': WHATEVER THE INPUT: true; the input reads as it did. -/
def blendLotsSpec : ChangeSpec := { name := "blendLots", fn := fun _ => fun
  | [d1, d2, d3] => { results := [.lit (.bool true)], args := [d1, d2, d3] }
  | _ => none }
def blendLotsRow : OpenClaim := { program := "ythekmbikolpmlaa", sum := "bf1b49488a4f16b7cdd20fcf20dd57b6bb65d26ee28c20a59dbf535b20fc76a7", func := "stearin/stearinlaw02.BlendLots", spec := "blendLots", unfollowed := true, recurses := true, apart := false }
def BlendLotsSaid : Prop := blendLotsRow.holds Try.pinned (OpenSpec.ofChange blendLotsSpec)

/-- ITS FALSE NEIGHBOUR: 'it returns false'. Refute it at one input. -/
def blendLotsWrong : ChangeSpec := { name := "blendLots", fn := fun _ => fun
  | [d1, d2, d3] => { results := [.lit (.bool false)], args := [d1, d2, d3] }
  | _ => none }
def BlendLotsWrongFalsely : Prop := blendLotsRow.holds Try.pinned (OpenSpec.ofChange blendLotsWrong)

/-- 'stearinlaw02.BlendKept': WHATEVER THE INPUT: true; the input reads as it did. -/
def blendKeptSpec : ChangeSpec := { name := "blendKept", fn := fun _ => fun
  | [d1, d2, d3] => { results := [.lit (.bool true)], args := [d1, d2, d3] }
  | _ => none }
def blendKeptRow : OpenClaim := { program := "ythekmbikolpmlaa", sum := "bf1b49488a4f16b7cdd20fcf20dd57b6bb65d26ee28c20a59dbf535b20fc76a7", func := "stearin/stearinlaw02.BlendKept", spec := "blendKept", unfollowed := true, recurses := true, apart := false }
def BlendKeptSaid : Prop := blendKeptRow.holds Try.pinned (OpenSpec.ofChange blendKeptSpec)

/-- ITS FALSE NEIGHBOUR: 'it returns false'. Refute it at one input. -/
def blendKeptWrong : ChangeSpec := { name := "blendKept", fn := fun _ => fun
  | [d1, d2, d3] => { results := [.lit (.bool false)], args := [d1, d2, d3] }
  | _ => none }
def BlendKeptWrongFalsely : Prop := blendKeptRow.holds Try.pinned (OpenSpec.ofChange blendKeptWrong)

/-- 'stearinlaw02.BlendBest': WHATEVER THE INPUT: true; the input reads as it did. -/
def blendBestSpec : ChangeSpec := { name := "blendBest", fn := fun _ => fun
  | [d1, d2, d3] => { results := [.lit (.bool true)], args := [d1, d2, d3] }
  | _ => none }
def blendBestRow : OpenClaim := { program := "ythekmbikolpmlaa", sum := "bf1b49488a4f16b7cdd20fcf20dd57b6bb65d26ee28c20a59dbf535b20fc76a7", func := "stearin/stearinlaw02.BlendBest", spec := "blendBest", unfollowed := true, recurses := true, apart := false }
def BlendBestSaid : Prop := blendBestRow.holds Try.pinned (OpenSpec.ofChange blendBestSpec)

/-- ITS FALSE NEIGHBOUR: 'it returns false'. Refute it at one input. -/
def blendBestWrong : ChangeSpec := { name := "blendBest", fn := fun _ => fun
  | [d1, d2, d3] => { results := [.lit (.bool false)], args := [d1, d2, d3] }
  | _ => none }
def BlendBestWrongFalsely : Prop := blendBestRow.holds Try.pinned (OpenSpec.ofChange blendBestWrong)

/-- 'stearinlaw02.BlendStays': WHATEVER THE INPUT: true; the input reads as it did. -/
def blendStaysSpec : ChangeSpec := { name := "blendStays", fn := fun _ => fun
  | [d1, d2, d3] => { results := [.lit (.bool true)], args := [d1, d2, d3] }
  | _ => none }
def blendStaysRow : OpenClaim := { program := "ythekmbikolpmlaa", sum := "bf1b49488a4f16b7cdd20fcf20dd57b6bb65d26ee28c20a59dbf535b20fc76a7", func := "stearin/stearinlaw02.BlendStays", spec := "blendStays", unfollowed := true, recurses := true, apart := false }
def BlendStaysSaid : Prop := blendStaysRow.holds Try.pinned (OpenSpec.ofChange blendStaysSpec)

/-- ITS FALSE NEIGHBOUR: 'it returns false'. Refute it at one input. -/
def blendStaysWrong : ChangeSpec := { name := "blendStays", fn := fun _ => fun
  | [d1, d2, d3] => { results := [.lit (.bool false)], args := [d1, d2, d3] }
  | _ => none }
def BlendStaysWrongFalsely : Prop := blendStaysRow.holds Try.pinned (OpenSpec.ofChange blendStaysWrong)

/-- 'stearinlaw02.BlendWeighed': WHATEVER THE INPUT: true; the input reads as it did. -/
def blendWeighedSpec : ChangeSpec := { name := "blendWeighed", fn := fun _ => fun
  | [d1, d2, d3] => { results := [.lit (.bool true)], args := [d1, d2, d3] }
  | _ => none }
def blendWeighedRow : OpenClaim := { program := "ythekmbikolpmlaa", sum := "bf1b49488a4f16b7cdd20fcf20dd57b6bb65d26ee28c20a59dbf535b20fc76a7", func := "stearin/stearinlaw02.BlendWeighed", spec := "blendWeighed", unfollowed := true, recurses := true, apart := false }
def BlendWeighedSaid : Prop := blendWeighedRow.holds Try.pinned (OpenSpec.ofChange blendWeighedSpec)

/-- ITS FALSE NEIGHBOUR: 'it returns false'. Refute it at one input. -/
def blendWeighedWrong : ChangeSpec := { name := "blendWeighed", fn := fun _ => fun
  | [d1, d2, d3] => { results := [.lit (.bool false)], args := [d1, d2, d3] }
  | _ => none }
def BlendWeighedWrongFalsely : Prop := blendWeighedRow.holds Try.pinned (OpenSpec.ofChange blendWeighedWrong)

/-- 'stearinlaw02.BlendLess': WHATEVER THE INPUT: true; the input reads as it did. -/
def blendLessSpec : ChangeSpec := { name := "blendLess", fn := fun _ => fun
  | [d1, d2, d3] => { results := [.lit (.bool true)], args := [d1, d2, d3] }
  | _ => none }
def blendLessRow : OpenClaim := { program := "ythekmbikolpmlaa", sum := "bf1b49488a4f16b7cdd20fcf20dd57b6bb65d26ee28c20a59dbf535b20fc76a7", func := "stearin/stearinlaw02.BlendLess", spec := "blendLess", unfollowed := true, recurses := true, apart := false }
def BlendLessSaid : Prop := blendLessRow.holds Try.pinned (OpenSpec.ofChange blendLessSpec)

/-- ITS FALSE NEIGHBOUR: 'it returns false'. Refute it at one input. -/
def blendLessWrong : ChangeSpec := { name := "blendLess", fn := fun _ => fun
  | [d1, d2, d3] => { results := [.lit (.bool false)], args := [d1, d2, d3] }
  | _ => none }
def BlendLessWrongFalsely : Prop := blendLessRow.holds Try.pinned (OpenSpec.ofChange blendLessWrong)

/-- 'stearinlaw02.BlendCurves': WHATEVER THE INPUT: true; the input reads as it did. -/
def blendCurvesSpec : ChangeSpec := { name := "blendCurves", fn := fun _ => fun
  | [d1, d2] => { results := [.lit (.bool true)], args := [d1, d2] }
  | _ => none }
def blendCurvesRow : OpenClaim := { program := "ythekmbikolpmlaa", sum := "bf1b49488a4f16b7cdd20fcf20dd57b6bb65d26ee28c20a59dbf535b20fc76a7", func := "stearin/stearinlaw02.BlendCurves", spec := "blendCurves", unfollowed := true, recurses := true, apart := false }
def BlendCurvesSaid : Prop := blendCurvesRow.holds Try.pinned (OpenSpec.ofChange blendCurvesSpec)

/-- ITS FALSE NEIGHBOUR: 'it returns false'. Refute it at one input. -/
def blendCurvesWrong : ChangeSpec := { name := "blendCurves", fn := fun _ => fun
  | [d1, d2] => { results := [.lit (.bool false)], args := [d1, d2] }
  | _ => none }
def BlendCurvesWrongFalsely : Prop := blendCurvesRow.holds Try.pinned (OpenSpec.ofChange blendCurvesWrong)

/-- 'stearinlaw02.BlendTurned': WHATEVER THE INPUT: true; the input reads as it did. -/
def blendTurnedSpec : ChangeSpec := { name := "blendTurned", fn := fun _ => fun
  | [d1, d2, d3] => { results := [.lit (.bool true)], args := [d1, d2, d3] }
  | _ => none }
def blendTurnedRow : OpenClaim := { program := "ythekmbikolpmlaa", sum := "bf1b49488a4f16b7cdd20fcf20dd57b6bb65d26ee28c20a59dbf535b20fc76a7", func := "stearin/stearinlaw02.BlendTurned", spec := "blendTurned", unfollowed := true, recurses := true, apart := false }
def BlendTurnedSaid : Prop := blendTurnedRow.holds Try.pinned (OpenSpec.ofChange blendTurnedSpec)

/-- ITS FALSE NEIGHBOUR: 'it returns false'. Refute it at one input. -/
def blendTurnedWrong : ChangeSpec := { name := "blendTurned", fn := fun _ => fun
  | [d1, d2, d3] => { results := [.lit (.bool false)], args := [d1, d2, d3] }
  | _ => none }
def BlendTurnedWrongFalsely : Prop := blendTurnedRow.holds Try.pinned (OpenSpec.ofChange blendTurnedWrong)

/- THE SECOND FORM. 'bulk': how many values and letters a reading holds, each counted each time it is reached (what is shared counts as often as it is met; a slice's spare places count too). A statement '..UptoSaid' is the law's where the arguments, and the package variables that the reading takes, are together of bulk at most 1048576: NARROWER than '..Said'. Prove '..Said' where nothing that the law and all that it calls make is longer than what came in: it says more and counts as full. Else prove '..UptoSaid'. A law counts once. -/
mutual
def uptoBulk {H : Type} : DataW H → Nat
  | .lit (.string bytes) => bytes.length + 1
  | .lit _ => 1
  | .nil => 1
  | .ptr d => uptoBulk d + 1
  | .slice elems spare => uptoBulkAll elems + uptoBulkAll spare + 1
  | .agg parts => uptoBulkAll parts + 1
  | .iface _ d => uptoBulk d + 1
  | .map entries => uptoBulkEntries entries + 1
  | .held _ => 1
def uptoBulkAll {H : Type} : List (DataW H) → Nat
  | [] => 0
  | d :: r => uptoBulk d + uptoBulkAll r
def uptoBulkEntries {H : Type} : List (Lit × DataW H) → Nat
  | [] => 0
  | x :: r => uptoBulkEntry x + uptoBulkEntries r
def uptoBulkEntry {H : Type} : Lit × DataW H → Nat
  | (.string bytes, d) => bytes.length + uptoBulk d + 1
  | (_, d) => uptoBulk d + 1
 end
def uptoSmall : (H : Type) → List (DataW H) → Bool := fun _ ds => decide (uptoBulkAll ds ≤ 1048576)
def OpenSpec.upto (s : _root_.Go.ChangeSpec) : _root_.Go.OpenSpec := { _root_.Go.OpenSpec.ofChange s with cond := some uptoSmall }

/-- 'stearinlaw02.BlendChecks', WHERE WHAT IT READS IS OF BULK AT MOST 1048576: true; the input reads as it did. -/
def blendChecksUptoRow : OpenClaim := { program := "ythekmbikolpmlaa", sum := "bf1b49488a4f16b7cdd20fcf20dd57b6bb65d26ee28c20a59dbf535b20fc76a7", func := "stearin/stearinlaw02.BlendChecks", spec := "blendChecks", unfollowed := true, recurses := true, apart := false, narrowed := true }
def BlendChecksUptoSaid : Prop := blendChecksUptoRow.holds Try.pinned (OpenSpec.upto blendChecksSpec)

/-- 'stearinlaw02.BlendValues', WHERE WHAT IT READS IS OF BULK AT MOST 1048576: true; the input reads as it did. -/
def blendValuesUptoRow : OpenClaim := { program := "ythekmbikolpmlaa", sum := "bf1b49488a4f16b7cdd20fcf20dd57b6bb65d26ee28c20a59dbf535b20fc76a7", func := "stearin/stearinlaw02.BlendValues", spec := "blendValues", unfollowed := true, recurses := true, apart := false, narrowed := true }
def BlendValuesUptoSaid : Prop := blendValuesUptoRow.holds Try.pinned (OpenSpec.upto blendValuesSpec)

/-- 'stearinlaw02.BlendWishes', WHERE WHAT IT READS IS OF BULK AT MOST 1048576: true; the input reads as it did. -/
def blendWishesUptoRow : OpenClaim := { program := "ythekmbikolpmlaa", sum := "bf1b49488a4f16b7cdd20fcf20dd57b6bb65d26ee28c20a59dbf535b20fc76a7", func := "stearin/stearinlaw02.BlendWishes", spec := "blendWishes", unfollowed := true, recurses := true, apart := false, narrowed := true }
def BlendWishesUptoSaid : Prop := blendWishesUptoRow.holds Try.pinned (OpenSpec.upto blendWishesSpec)

/-- 'stearinlaw02.BlendKnown', WHERE WHAT IT READS IS OF BULK AT MOST 1048576: true; the input reads as it did. -/
def blendKnownUptoRow : OpenClaim := { program := "ythekmbikolpmlaa", sum := "bf1b49488a4f16b7cdd20fcf20dd57b6bb65d26ee28c20a59dbf535b20fc76a7", func := "stearin/stearinlaw02.BlendKnown", spec := "blendKnown", unfollowed := true, recurses := true, apart := false, narrowed := true }
def BlendKnownUptoSaid : Prop := blendKnownUptoRow.holds Try.pinned (OpenSpec.upto blendKnownSpec)

/-- 'stearinlaw02.BlendLots', WHERE WHAT IT READS IS OF BULK AT MOST 1048576: true; the input reads as it did. -/
def blendLotsUptoRow : OpenClaim := { program := "ythekmbikolpmlaa", sum := "bf1b49488a4f16b7cdd20fcf20dd57b6bb65d26ee28c20a59dbf535b20fc76a7", func := "stearin/stearinlaw02.BlendLots", spec := "blendLots", unfollowed := true, recurses := true, apart := false, narrowed := true }
def BlendLotsUptoSaid : Prop := blendLotsUptoRow.holds Try.pinned (OpenSpec.upto blendLotsSpec)

/-- 'stearinlaw02.BlendKept', WHERE WHAT IT READS IS OF BULK AT MOST 1048576: true; the input reads as it did. -/
def blendKeptUptoRow : OpenClaim := { program := "ythekmbikolpmlaa", sum := "bf1b49488a4f16b7cdd20fcf20dd57b6bb65d26ee28c20a59dbf535b20fc76a7", func := "stearin/stearinlaw02.BlendKept", spec := "blendKept", unfollowed := true, recurses := true, apart := false, narrowed := true }
def BlendKeptUptoSaid : Prop := blendKeptUptoRow.holds Try.pinned (OpenSpec.upto blendKeptSpec)

/-- 'stearinlaw02.BlendBest', WHERE WHAT IT READS IS OF BULK AT MOST 1048576: true; the input reads as it did. -/
def blendBestUptoRow : OpenClaim := { program := "ythekmbikolpmlaa", sum := "bf1b49488a4f16b7cdd20fcf20dd57b6bb65d26ee28c20a59dbf535b20fc76a7", func := "stearin/stearinlaw02.BlendBest", spec := "blendBest", unfollowed := true, recurses := true, apart := false, narrowed := true }
def BlendBestUptoSaid : Prop := blendBestUptoRow.holds Try.pinned (OpenSpec.upto blendBestSpec)

/-- 'stearinlaw02.BlendStays', WHERE WHAT IT READS IS OF BULK AT MOST 1048576: true; the input reads as it did. -/
def blendStaysUptoRow : OpenClaim := { program := "ythekmbikolpmlaa", sum := "bf1b49488a4f16b7cdd20fcf20dd57b6bb65d26ee28c20a59dbf535b20fc76a7", func := "stearin/stearinlaw02.BlendStays", spec := "blendStays", unfollowed := true, recurses := true, apart := false, narrowed := true }
def BlendStaysUptoSaid : Prop := blendStaysUptoRow.holds Try.pinned (OpenSpec.upto blendStaysSpec)

/-- 'stearinlaw02.BlendWeighed', WHERE WHAT IT READS IS OF BULK AT MOST 1048576: true; the input reads as it did. -/
def blendWeighedUptoRow : OpenClaim := { program := "ythekmbikolpmlaa", sum := "bf1b49488a4f16b7cdd20fcf20dd57b6bb65d26ee28c20a59dbf535b20fc76a7", func := "stearin/stearinlaw02.BlendWeighed", spec := "blendWeighed", unfollowed := true, recurses := true, apart := false, narrowed := true }
def BlendWeighedUptoSaid : Prop := blendWeighedUptoRow.holds Try.pinned (OpenSpec.upto blendWeighedSpec)

/-- 'stearinlaw02.BlendLess', WHERE WHAT IT READS IS OF BULK AT MOST 1048576: true; the input reads as it did. -/
def blendLessUptoRow : OpenClaim := { program := "ythekmbikolpmlaa", sum := "bf1b49488a4f16b7cdd20fcf20dd57b6bb65d26ee28c20a59dbf535b20fc76a7", func := "stearin/stearinlaw02.BlendLess", spec := "blendLess", unfollowed := true, recurses := true, apart := false, narrowed := true }
def BlendLessUptoSaid : Prop := blendLessUptoRow.holds Try.pinned (OpenSpec.upto blendLessSpec)

/-- 'stearinlaw02.BlendCurves', WHERE WHAT IT READS IS OF BULK AT MOST 1048576: true; the input reads as it did. -/
def blendCurvesUptoRow : OpenClaim := { program := "ythekmbikolpmlaa", sum := "bf1b49488a4f16b7cdd20fcf20dd57b6bb65d26ee28c20a59dbf535b20fc76a7", func := "stearin/stearinlaw02.BlendCurves", spec := "blendCurves", unfollowed := true, recurses := true, apart := false, narrowed := true }
def BlendCurvesUptoSaid : Prop := blendCurvesUptoRow.holds Try.pinned (OpenSpec.upto blendCurvesSpec)

/-- 'stearinlaw02.BlendTurned', WHERE WHAT IT READS IS OF BULK AT MOST 1048576: true; the input reads as it did. -/
def blendTurnedUptoRow : OpenClaim := { program := "ythekmbikolpmlaa", sum := "bf1b49488a4f16b7cdd20fcf20dd57b6bb65d26ee28c20a59dbf535b20fc76a7", func := "stearin/stearinlaw02.BlendTurned", spec := "blendTurned", unfollowed := true, recurses := true, apart := false, narrowed := true }
def BlendTurnedUptoSaid : Prop := blendTurnedUptoRow.holds Try.pinned (OpenSpec.upto blendTurnedSpec)

end Rows
end Go.Proofs.Ythekmbikolpmlaa
