/-
  No cell of these rows narrows 'for every input' (looked for: loops, veiled, ifaces, maps, wideKeys, modest, calm, conditions, laid).
  DERIVED. THE GIVEN ROWS OF THIS SEAT. 11 by the template 'for every input the law returns true; each argument reads behind the call as it read before'; 0 by the template 'total and deterministic' (their statements: YtdgmmijimclooaaTotals.lean).
  GIVEN WITH THE SEED: the statements are not yours to turn. If you find one false, say at which input.
  Laid BY PROGRAM, IN A SANDBOX (cutbox-rows.mjs): the forced cells as the released guide's own fill.sh prints them over the translation 85ab98b5f741a9ba… (all of the seat's roots in one cut). By AI agents, Wed Nov 11 2026. No macro, syntax, notation, axiom, sorry.
-/
import Derived.Test.YtdgmmijimclooaaChecked
import GoSem.Claim
import GoSem.ClaimJoined
import GoSem.ClaimMapViews
import Derived.JoinedTies
import Derived.KernelRfl
namespace Go.Proofs.Ytdgmmijimclooaa
/- THE CELL 'sum', in the pinned program and in every row, IS THE sha256 OF THE DUMP (.gsa) THAT YtdgmmijimclooaaProg.lean LOADS. Nothing in Lean hashes anything: it is a label: what it is worth is what the hold of that sum in a sandbox is worth. -/
noncomputable def Try.pinned : Pinned := { name := "ytdgmmijimclooaa", sum := "85ab98b5f741a9ba60a70590cfdc6f5e6316ca3abf40ad0f0952347a87cd7ece", checked := Try.checked }
namespace Rows
def none {H : Type} : Left H := { results := [], args := [] }

/-- 'stearinlaw03.WickChecks': WHATEVER THE INPUT: true; the input reads as it did. -/
def wickChecksSpec : ChangeSpec := { name := "wickChecks", fn := fun _ => fun
  | [d] => { results := [.lit (.bool true)], args := [d] }
  | _ => none }
def wickChecksRow : OpenClaim := { program := "ytdgmmijimclooaa", sum := "85ab98b5f741a9ba60a70590cfdc6f5e6316ca3abf40ad0f0952347a87cd7ece", func := "stearin/stearinlaw03.WickChecks", spec := "wickChecks", unfollowed := true, recurses := true, apart := false }
def WickChecksSaid : Prop := wickChecksRow.holds Try.pinned (OpenSpec.ofChange wickChecksSpec)

/-- ITS FALSE NEIGHBOUR: 'it returns false'. Refute it at one input. -/
def wickChecksWrong : ChangeSpec := { name := "wickChecks", fn := fun _ => fun
  | [d] => { results := [.lit (.bool false)], args := [d] }
  | _ => none }
def WickChecksWrongFalsely : Prop := wickChecksRow.holds Try.pinned (OpenSpec.ofChange wickChecksWrong)

/-- 'stearinlaw03.WickBurns': WHATEVER THE INPUT: true; the input reads as it did. -/
def wickBurnsSpec : ChangeSpec := { name := "wickBurns", fn := fun _ => fun
  | [d1, d2] => { results := [.lit (.bool true)], args := [d1, d2] }
  | _ => none }
def wickBurnsRow : OpenClaim := { program := "ytdgmmijimclooaa", sum := "85ab98b5f741a9ba60a70590cfdc6f5e6316ca3abf40ad0f0952347a87cd7ece", func := "stearin/stearinlaw03.WickBurns", spec := "wickBurns", unfollowed := true, recurses := true, apart := false }
def WickBurnsSaid : Prop := wickBurnsRow.holds Try.pinned (OpenSpec.ofChange wickBurnsSpec)

/-- ITS FALSE NEIGHBOUR: 'it returns false'. Refute it at one input. -/
def wickBurnsWrong : ChangeSpec := { name := "wickBurns", fn := fun _ => fun
  | [d1, d2] => { results := [.lit (.bool false)], args := [d1, d2] }
  | _ => none }
def WickBurnsWrongFalsely : Prop := wickBurnsRow.holds Try.pinned (OpenSpec.ofChange wickBurnsWrong)

/-- 'stearinlaw03.WickSuits': WHATEVER THE INPUT: true; the input reads as it did. -/
def wickSuitsSpec : ChangeSpec := { name := "wickSuits", fn := fun _ => fun
  | [d1, d2, d3] => { results := [.lit (.bool true)], args := [d1, d2, d3] }
  | _ => none }
def wickSuitsRow : OpenClaim := { program := "ytdgmmijimclooaa", sum := "85ab98b5f741a9ba60a70590cfdc6f5e6316ca3abf40ad0f0952347a87cd7ece", func := "stearin/stearinlaw03.WickSuits", spec := "wickSuits", unfollowed := true, recurses := true, apart := false }
def WickSuitsSaid : Prop := wickSuitsRow.holds Try.pinned (OpenSpec.ofChange wickSuitsSpec)

/-- ITS FALSE NEIGHBOUR: 'it returns false'. Refute it at one input. -/
def wickSuitsWrong : ChangeSpec := { name := "wickSuits", fn := fun _ => fun
  | [d1, d2, d3] => { results := [.lit (.bool false)], args := [d1, d2, d3] }
  | _ => none }
def WickSuitsWrongFalsely : Prop := wickSuitsRow.holds Try.pinned (OpenSpec.ofChange wickSuitsWrong)

/-- 'stearinlaw03.WickKnown': WHATEVER THE INPUT: true; the input reads as it did. -/
def wickKnownSpec : ChangeSpec := { name := "wickKnown", fn := fun _ => fun
  | [] => { results := [.lit (.bool true)], args := [] }
  | _ => none }
def wickKnownRow : OpenClaim := { program := "ytdgmmijimclooaa", sum := "85ab98b5f741a9ba60a70590cfdc6f5e6316ca3abf40ad0f0952347a87cd7ece", func := "stearin/stearinlaw03.WickKnown", spec := "wickKnown", unfollowed := true, recurses := true, apart := false }
def WickKnownSaid : Prop := wickKnownRow.holds Try.pinned (OpenSpec.ofChange wickKnownSpec)

/-- ITS FALSE NEIGHBOUR: 'it returns false'. Refute it at one input. -/
def wickKnownWrong : ChangeSpec := { name := "wickKnown", fn := fun _ => fun
  | [] => { results := [.lit (.bool false)], args := [] }
  | _ => none }
def WickKnownWrongFalsely : Prop := wickKnownRow.holds Try.pinned (OpenSpec.ofChange wickKnownWrong)

/-- 'stearinlaw03.WickTruth': WHATEVER THE INPUT: true; the input reads as it did. -/
def wickTruthSpec : ChangeSpec := { name := "wickTruth", fn := fun _ => fun
  | [d1, d2, d3] => { results := [.lit (.bool true)], args := [d1, d2, d3] }
  | _ => none }
def wickTruthRow : OpenClaim := { program := "ytdgmmijimclooaa", sum := "85ab98b5f741a9ba60a70590cfdc6f5e6316ca3abf40ad0f0952347a87cd7ece", func := "stearin/stearinlaw03.WickTruth", spec := "wickTruth", unfollowed := true, recurses := true, apart := false }
def WickTruthSaid : Prop := wickTruthRow.holds Try.pinned (OpenSpec.ofChange wickTruthSpec)

/-- ITS FALSE NEIGHBOUR: 'it returns false'. Refute it at one input. -/
def wickTruthWrong : ChangeSpec := { name := "wickTruth", fn := fun _ => fun
  | [d1, d2, d3] => { results := [.lit (.bool false)], args := [d1, d2, d3] }
  | _ => none }
def WickTruthWrongFalsely : Prop := wickTruthRow.holds Try.pinned (OpenSpec.ofChange wickTruthWrong)

/-- 'stearinlaw03.WickBounds': WHATEVER THE INPUT: true; the input reads as it did. -/
def wickBoundsSpec : ChangeSpec := { name := "wickBounds", fn := fun _ => fun
  | [d1, d2, d3] => { results := [.lit (.bool true)], args := [d1, d2, d3] }
  | _ => none }
def wickBoundsRow : OpenClaim := { program := "ytdgmmijimclooaa", sum := "85ab98b5f741a9ba60a70590cfdc6f5e6316ca3abf40ad0f0952347a87cd7ece", func := "stearin/stearinlaw03.WickBounds", spec := "wickBounds", unfollowed := true, recurses := true, apart := false }
def WickBoundsSaid : Prop := wickBoundsRow.holds Try.pinned (OpenSpec.ofChange wickBoundsSpec)

/-- ITS FALSE NEIGHBOUR: 'it returns false'. Refute it at one input. -/
def wickBoundsWrong : ChangeSpec := { name := "wickBounds", fn := fun _ => fun
  | [d1, d2, d3] => { results := [.lit (.bool false)], args := [d1, d2, d3] }
  | _ => none }
def WickBoundsWrongFalsely : Prop := wickBoundsRow.holds Try.pinned (OpenSpec.ofChange wickBoundsWrong)

/-- 'stearinlaw03.WickThinnest': WHATEVER THE INPUT: true; the input reads as it did. -/
def wickThinnestSpec : ChangeSpec := { name := "wickThinnest", fn := fun _ => fun
  | [d1, d2] => { results := [.lit (.bool true)], args := [d1, d2] }
  | _ => none }
def wickThinnestRow : OpenClaim := { program := "ytdgmmijimclooaa", sum := "85ab98b5f741a9ba60a70590cfdc6f5e6316ca3abf40ad0f0952347a87cd7ece", func := "stearin/stearinlaw03.WickThinnest", spec := "wickThinnest", unfollowed := true, recurses := true, apart := false }
def WickThinnestSaid : Prop := wickThinnestRow.holds Try.pinned (OpenSpec.ofChange wickThinnestSpec)

/-- ITS FALSE NEIGHBOUR: 'it returns false'. Refute it at one input. -/
def wickThinnestWrong : ChangeSpec := { name := "wickThinnest", fn := fun _ => fun
  | [d1, d2] => { results := [.lit (.bool false)], args := [d1, d2] }
  | _ => none }
def WickThinnestWrongFalsely : Prop := wickThinnestRow.holds Try.pinned (OpenSpec.ofChange wickThinnestWrong)

/-- 'stearinlaw03.WickSizes': WHATEVER THE INPUT: true; the input reads as it did. -/
def wickSizesSpec : ChangeSpec := { name := "wickSizes", fn := fun _ => fun
  | [d1, d2, d3] => { results := [.lit (.bool true)], args := [d1, d2, d3] }
  | _ => none }
def wickSizesRow : OpenClaim := { program := "ytdgmmijimclooaa", sum := "85ab98b5f741a9ba60a70590cfdc6f5e6316ca3abf40ad0f0952347a87cd7ece", func := "stearin/stearinlaw03.WickSizes", spec := "wickSizes", unfollowed := true, recurses := true, apart := false }
def WickSizesSaid : Prop := wickSizesRow.holds Try.pinned (OpenSpec.ofChange wickSizesSpec)

/-- ITS FALSE NEIGHBOUR: 'it returns false'. Refute it at one input. -/
def wickSizesWrong : ChangeSpec := { name := "wickSizes", fn := fun _ => fun
  | [d1, d2, d3] => { results := [.lit (.bool false)], args := [d1, d2, d3] }
  | _ => none }
def WickSizesWrongFalsely : Prop := wickSizesRow.holds Try.pinned (OpenSpec.ofChange wickSizesWrong)

/-- 'stearinlaw03.WickCalm': WHATEVER THE INPUT: true; the input reads as it did. -/
def wickCalmSpec : ChangeSpec := { name := "wickCalm", fn := fun _ => fun
  | [d1, d2, d3] => { results := [.lit (.bool true)], args := [d1, d2, d3] }
  | _ => none }
def wickCalmRow : OpenClaim := { program := "ytdgmmijimclooaa", sum := "85ab98b5f741a9ba60a70590cfdc6f5e6316ca3abf40ad0f0952347a87cd7ece", func := "stearin/stearinlaw03.WickCalm", spec := "wickCalm", unfollowed := true, recurses := true, apart := false }
def WickCalmSaid : Prop := wickCalmRow.holds Try.pinned (OpenSpec.ofChange wickCalmSpec)

/-- ITS FALSE NEIGHBOUR: 'it returns false'. Refute it at one input. -/
def wickCalmWrong : ChangeSpec := { name := "wickCalm", fn := fun _ => fun
  | [d1, d2, d3] => { results := [.lit (.bool false)], args := [d1, d2, d3] }
  | _ => none }
def WickCalmWrongFalsely : Prop := wickCalmRow.holds Try.pinned (OpenSpec.ofChange wickCalmWrong)

/-- 'stearinlaw03.WickMore': WHATEVER THE INPUT: true; the input reads as it did. -/
def wickMoreSpec : ChangeSpec := { name := "wickMore", fn := fun _ => fun
  | [d1, d2, d3] => { results := [.lit (.bool true)], args := [d1, d2, d3] }
  | _ => none }
def wickMoreRow : OpenClaim := { program := "ytdgmmijimclooaa", sum := "85ab98b5f741a9ba60a70590cfdc6f5e6316ca3abf40ad0f0952347a87cd7ece", func := "stearin/stearinlaw03.WickMore", spec := "wickMore", unfollowed := true, recurses := true, apart := false }
def WickMoreSaid : Prop := wickMoreRow.holds Try.pinned (OpenSpec.ofChange wickMoreSpec)

/-- ITS FALSE NEIGHBOUR: 'it returns false'. Refute it at one input. -/
def wickMoreWrong : ChangeSpec := { name := "wickMore", fn := fun _ => fun
  | [d1, d2, d3] => { results := [.lit (.bool false)], args := [d1, d2, d3] }
  | _ => none }
def WickMoreWrongFalsely : Prop := wickMoreRow.holds Try.pinned (OpenSpec.ofChange wickMoreWrong)

/-- 'stearinlaw03.WickTurned': WHATEVER THE INPUT: true; the input reads as it did. -/
def wickTurnedSpec : ChangeSpec := { name := "wickTurned", fn := fun _ => fun
  | [d1, d2, d3] => { results := [.lit (.bool true)], args := [d1, d2, d3] }
  | _ => none }
def wickTurnedRow : OpenClaim := { program := "ytdgmmijimclooaa", sum := "85ab98b5f741a9ba60a70590cfdc6f5e6316ca3abf40ad0f0952347a87cd7ece", func := "stearin/stearinlaw03.WickTurned", spec := "wickTurned", unfollowed := true, recurses := true, apart := false }
def WickTurnedSaid : Prop := wickTurnedRow.holds Try.pinned (OpenSpec.ofChange wickTurnedSpec)

/-- ITS FALSE NEIGHBOUR: 'it returns false'. Refute it at one input. -/
def wickTurnedWrong : ChangeSpec := { name := "wickTurned", fn := fun _ => fun
  | [d1, d2, d3] => { results := [.lit (.bool false)], args := [d1, d2, d3] }
  | _ => none }
def WickTurnedWrongFalsely : Prop := wickTurnedRow.holds Try.pinned (OpenSpec.ofChange wickTurnedWrong)

/- THE SECOND FORM. 'bulk': how many values and letters a reading holds, each counted each time it is reached (what is shared counts as often as it is met; a slice's spare places count too). A statement '..UptoSaid' is the law's where the arguments, and the package variables that the reading takes, are together of bulk at most 1048576: NARROWER than '..Said'. Prove '..Said' where nothing that the law and all that it calls make is longer than what came in: it says more and counts as full. Else prove '..UptoSaid'. A law counts once. -/
mutual
def uptoBulk {H : Type} : DataW H → Nat
  | .lit (.string bytes) => bytes.length + 1
  | .lit _ => 1
  | .nil => 1
  | .ptr d => uptoBulk d + 1
  | .slice elems spare => uptoBulkAll elems + uptoBulkAll spare + 1
  | .agg parts => uptoBulkAll parts + 1
  | .iface _ d => uptoBulk d + 1
  | .map entries => uptoBulkEntries entries + 1
  | .held _ => 1
def uptoBulkAll {H : Type} : List (DataW H) → Nat
  | [] => 0
  | d :: r => uptoBulk d + uptoBulkAll r
def uptoBulkEntries {H : Type} : List (Lit × DataW H) → Nat
  | [] => 0
  | x :: r => uptoBulkEntry x + uptoBulkEntries r
def uptoBulkEntry {H : Type} : Lit × DataW H → Nat
  | (.string bytes, d) => bytes.length + uptoBulk d + 1
  | (_, d) => uptoBulk d + 1
 end
def uptoSmall : (H : Type) → List (DataW H) → Bool := fun _ ds => decide (uptoBulkAll ds ≤ 1048576)
def OpenSpec.upto (s : _root_.Go.ChangeSpec) : _root_.Go.OpenSpec := { _root_.Go.OpenSpec.ofChange s with cond := some uptoSmall }

/-- 'stearinlaw03.WickChecks', WHERE WHAT IT READS IS OF BULK AT MOST 1048576: true; the input reads as it did. -/
def wickChecksUptoRow : OpenClaim := { program := "ytdgmmijimclooaa", sum := "85ab98b5f741a9ba60a70590cfdc6f5e6316ca3abf40ad0f0952347a87cd7ece", func := "stearin/stearinlaw03.WickChecks", spec := "wickChecks", unfollowed := true, recurses := true, apart := false, narrowed := true }
def WickChecksUptoSaid : Prop := wickChecksUptoRow.holds Try.pinned (OpenSpec.upto wickChecksSpec)

/-- 'stearinlaw03.WickBurns', WHERE WHAT IT READS IS OF BULK AT MOST 1048576: true; the input reads as it did. -/
def wickBurnsUptoRow : OpenClaim := { program := "ytdgmmijimclooaa", sum := "85ab98b5f741a9ba60a70590cfdc6f5e6316ca3abf40ad0f0952347a87cd7ece", func := "stearin/stearinlaw03.WickBurns", spec := "wickBurns", unfollowed := true, recurses := true, apart := false, narrowed := true }
def WickBurnsUptoSaid : Prop := wickBurnsUptoRow.holds Try.pinned (OpenSpec.upto wickBurnsSpec)

/-- 'stearinlaw03.WickSuits', WHERE WHAT IT READS IS OF BULK AT MOST 1048576: true; the input reads as it did. -/
def wickSuitsUptoRow : OpenClaim := { program := "ytdgmmijimclooaa", sum := "85ab98b5f741a9ba60a70590cfdc6f5e6316ca3abf40ad0f0952347a87cd7ece", func := "stearin/stearinlaw03.WickSuits", spec := "wickSuits", unfollowed := true, recurses := true, apart := false, narrowed := true }
def WickSuitsUptoSaid : Prop := wickSuitsUptoRow.holds Try.pinned (OpenSpec.upto wickSuitsSpec)

/-- 'stearinlaw03.WickKnown', WHERE WHAT IT READS IS OF BULK AT MOST 1048576: true; the input reads as it did. -/
def wickKnownUptoRow : OpenClaim := { program := "ytdgmmijimclooaa", sum := "85ab98b5f741a9ba60a70590cfdc6f5e6316ca3abf40ad0f0952347a87cd7ece", func := "stearin/stearinlaw03.WickKnown", spec := "wickKnown", unfollowed := true, recurses := true, apart := false, narrowed := true }
def WickKnownUptoSaid : Prop := wickKnownUptoRow.holds Try.pinned (OpenSpec.upto wickKnownSpec)

/-- 'stearinlaw03.WickTruth', WHERE WHAT IT READS IS OF BULK AT MOST 1048576: true; the input reads as it did. -/
def wickTruthUptoRow : OpenClaim := { program := "ytdgmmijimclooaa", sum := "85ab98b5f741a9ba60a70590cfdc6f5e6316ca3abf40ad0f0952347a87cd7ece", func := "stearin/stearinlaw03.WickTruth", spec := "wickTruth", unfollowed := true, recurses := true, apart := false, narrowed := true }
def WickTruthUptoSaid : Prop := wickTruthUptoRow.holds Try.pinned (OpenSpec.upto wickTruthSpec)

/-- 'stearinlaw03.WickBounds', WHERE WHAT IT READS IS OF BULK AT MOST 1048576: true; the input reads as it did. -/
def wickBoundsUptoRow : OpenClaim := { program := "ytdgmmijimclooaa", sum := "85ab98b5f741a9ba60a70590cfdc6f5e6316ca3abf40ad0f0952347a87cd7ece", func := "stearin/stearinlaw03.WickBounds", spec := "wickBounds", unfollowed := true, recurses := true, apart := false, narrowed := true }
def WickBoundsUptoSaid : Prop := wickBoundsUptoRow.holds Try.pinned (OpenSpec.upto wickBoundsSpec)

/-- 'stearinlaw03.WickThinnest', WHERE WHAT IT READS IS OF BULK AT MOST 1048576: true; the input reads as it did. -/
def wickThinnestUptoRow : OpenClaim := { program := "ytdgmmijimclooaa", sum := "85ab98b5f741a9ba60a70590cfdc6f5e6316ca3abf40ad0f0952347a87cd7ece", func := "stearin/stearinlaw03.WickThinnest", spec := "wickThinnest", unfollowed := true, recurses := true, apart := false, narrowed := true }
def WickThinnestUptoSaid : Prop := wickThinnestUptoRow.holds Try.pinned (OpenSpec.upto wickThinnestSpec)

/-- 'stearinlaw03.WickSizes', WHERE WHAT IT READS IS OF BULK AT MOST 1048576: true; the input reads as it did. -/
def wickSizesUptoRow : OpenClaim := { program := "ytdgmmijimclooaa", sum := "85ab98b5f741a9ba60a70590cfdc6f5e6316ca3abf40ad0f0952347a87cd7ece", func := "stearin/stearinlaw03.WickSizes", spec := "wickSizes", unfollowed := true, recurses := true, apart := false, narrowed := true }
def WickSizesUptoSaid : Prop := wickSizesUptoRow.holds Try.pinned (OpenSpec.upto wickSizesSpec)

/-- 'stearinlaw03.WickCalm', WHERE WHAT IT READS IS OF BULK AT MOST 1048576: true; the input reads as it did. -/
def wickCalmUptoRow : OpenClaim := { program := "ytdgmmijimclooaa", sum := "85ab98b5f741a9ba60a70590cfdc6f5e6316ca3abf40ad0f0952347a87cd7ece", func := "stearin/stearinlaw03.WickCalm", spec := "wickCalm", unfollowed := true, recurses := true, apart := false, narrowed := true }
def WickCalmUptoSaid : Prop := wickCalmUptoRow.holds Try.pinned (OpenSpec.upto wickCalmSpec)

/-- 'stearinlaw03.WickMore', WHERE WHAT IT READS IS OF BULK AT MOST 1048576: true; the input reads as it did. -/
def wickMoreUptoRow : OpenClaim := { program := "ytdgmmijimclooaa", sum := "85ab98b5f741a9ba60a70590cfdc6f5e6316ca3abf40ad0f0952347a87cd7ece", func := "stearin/stearinlaw03.WickMore", spec := "wickMore", unfollowed := true, recurses := true, apart := false, narrowed := true }
def WickMoreUptoSaid : Prop := wickMoreUptoRow.holds Try.pinned (OpenSpec.upto wickMoreSpec)

/-- 'stearinlaw03.WickTurned', WHERE WHAT IT READS IS OF BULK AT MOST 1048576: true; the input reads as it did. -/
def wickTurnedUptoRow : OpenClaim := { program := "ytdgmmijimclooaa", sum := "85ab98b5f741a9ba60a70590cfdc6f5e6316ca3abf40ad0f0952347a87cd7ece", func := "stearin/stearinlaw03.WickTurned", spec := "wickTurned", unfollowed := true, recurses := true, apart := false, narrowed := true }
def WickTurnedUptoSaid : Prop := wickTurnedUptoRow.holds Try.pinned (OpenSpec.upto wickTurnedSpec)

end Rows
end Go.Proofs.Ytdgmmijimclooaa
