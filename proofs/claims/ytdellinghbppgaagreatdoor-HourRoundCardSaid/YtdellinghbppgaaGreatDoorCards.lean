/-
  DERIVED. GIVEN WITH THE SEED: THE CARDS: each row of YtdellinghbppgaaGreatDoorRows.lean that lists a variable, with what it lists TIED to the program's text (the seventh form; the later family's looks); each row that meets fmt, with fmt's text TOLD by the authors' own Lean function (tested against real Go, not proved from fmt's source: count such statements apart). THE CARD IS WHAT COUNTS. Prove the row's statement (the work); the ties are given (YtdellinghbppgaaGreatDoorTie.lean); close each card by the builder's one call (the guide's Derived/Test/ToyasCard.lean, 'card_holds'). Laid BY PROGRAM, IN A SANDBOX (cutbox-door.mjs). By AI agents, Wed Nov 11 2026. No macro, syntax, notation, axiom, sorry.
-/
import Derived.Test.YtdellinghbppgaaGreatDoorRows
import GoSem.ClaimSeven
namespace Go.Proofs.YtdellinghbppgaaGreatDoor
namespace Rows

/-- THE TIED CARD OF 'stearinlaw09.HourChecks'. -/
def hourChecksCard : Claim7 := { stood := { row := hourChecksRow, standIns := [], harness := (true, "7cd504190454c775656696f643f322fac7ca65a9cc976f73dda986f79b1226ba"), looks := true }, kinds := [], alts := [], laidByText := true, laidKinds := [.data, .data, .data, .data, .sentinel, .sentinel, .pinned], laidTests := true, laidLooks := .later }
def HourChecksCardSaid : Prop := Claim7.holds Tryz.pinned (.plain (OpenSpec.ofChange hourChecksSpec)) hourChecksCard

/-- THE TIED CARD OF 'stearinlaw09.HourTexts'. -/
def hourTextsCard : Claim7 := { stood := { row := hourTextsRow, standIns := [], harness := (true, "7cd504190454c775656696f643f322fac7ca65a9cc976f73dda986f79b1226ba"), looks := true }, kinds := [], alts := [], laidByText := true, laidKinds := [.data, .data, .data, .data, .sentinel, .sentinel, .pinned], laidTests := true, laidLooks := .later }
def HourTextsCardSaid : Prop := Claim7.holds Tryz.pinned (.plain (OpenSpec.ofChange hourTextsSpec)) hourTextsCard

/-- THE TIED CARD OF 'stearinlaw09.HourKnown'. -/
def hourKnownCard : Claim7 := { stood := { row := hourKnownRow, standIns := [], harness := (true, "7cd504190454c775656696f643f322fac7ca65a9cc976f73dda986f79b1226ba"), looks := true }, kinds := [], alts := [], laidByText := true, laidKinds := [.data, .data, .data, .data, .sentinel, .sentinel, .pinned], laidTests := true, laidLooks := .later }
def HourKnownCardSaid : Prop := Claim7.holds Tryz.pinned (.plain (OpenSpec.ofChange hourKnownSpec)) hourKnownCard

/-- THE TIED CARD OF 'stearinlaw09.HourTruth'. -/
def hourTruthCard : Claim7 := { stood := { row := hourTruthRow, standIns := [], harness := (true, "7cd504190454c775656696f643f322fac7ca65a9cc976f73dda986f79b1226ba"), looks := true }, kinds := [], alts := [], laidByText := true, laidKinds := [.data, .data, .data, .data, .sentinel, .sentinel, .pinned], laidTests := true, laidLooks := .later }
def HourTruthCardSaid : Prop := Claim7.holds Tryz.pinned (.plain (OpenSpec.ofChange hourTruthSpec)) hourTruthCard

/-- THE TIED CARD OF 'stearinlaw09.HourReached'. -/
def hourReachedCard : Claim7 := { stood := { row := hourReachedRow, standIns := [], harness := (true, "7cd504190454c775656696f643f322fac7ca65a9cc976f73dda986f79b1226ba"), looks := true }, kinds := [], alts := [], laidByText := true, laidKinds := [.data, .data, .data, .data, .sentinel, .sentinel, .pinned], laidTests := true, laidLooks := .later }
def HourReachedCardSaid : Prop := Claim7.holds Tryz.pinned (.plain (OpenSpec.ofChange hourReachedSpec)) hourReachedCard

/-- THE TIED CARD OF 'stearinlaw09.HourKept'. -/
def hourKeptCard : Claim7 := { stood := { row := hourKeptRow, standIns := [], harness := (true, "7cd504190454c775656696f643f322fac7ca65a9cc976f73dda986f79b1226ba"), looks := true }, kinds := [], alts := [], laidByText := true, laidKinds := [.data, .data, .data, .data, .sentinel, .sentinel, .pinned], laidTests := true, laidLooks := .later }
def HourKeptCardSaid : Prop := Claim7.holds Tryz.pinned (.plain (OpenSpec.ofChange hourKeptSpec)) hourKeptCard

/-- THE TIED CARD OF 'stearinlaw09.HourRules'. -/
def hourRulesCard : Claim7 := { stood := { row := hourRulesRow, standIns := [], harness := (true, "7cd504190454c775656696f643f322fac7ca65a9cc976f73dda986f79b1226ba"), looks := true }, kinds := [], alts := [], laidByText := true, laidKinds := [.data, .data, .data, .data, .sentinel, .sentinel, .pinned], laidTests := true, laidLooks := .later }
def HourRulesCardSaid : Prop := Claim7.holds Tryz.pinned (.plain (OpenSpec.ofChange hourRulesSpec)) hourRulesCard

/-- THE TIED CARD OF 'stearinlaw09.HourOdd'. -/
def hourOddCard : Claim7 := { stood := { row := hourOddRow, standIns := [], harness := (true, "7cd504190454c775656696f643f322fac7ca65a9cc976f73dda986f79b1226ba"), looks := true }, kinds := [], alts := [], laidByText := true, laidKinds := [.data, .data, .data, .data, .sentinel, .sentinel, .pinned], laidTests := true, laidLooks := .later }
def HourOddCardSaid : Prop := Claim7.holds Tryz.pinned (.plain (OpenSpec.ofChange hourOddSpec)) hourOddCard

/-- THE TIED CARD OF 'stearinlaw09.HourMore'. -/
def hourMoreCard : Claim7 := { stood := { row := hourMoreRow, standIns := [], harness := (true, "7cd504190454c775656696f643f322fac7ca65a9cc976f73dda986f79b1226ba"), looks := true }, kinds := [], alts := [], laidByText := true, laidKinds := [.data, .data, .data, .data, .sentinel, .sentinel, .pinned], laidTests := true, laidLooks := .later }
def HourMoreCardSaid : Prop := Claim7.holds Tryz.pinned (.plain (OpenSpec.ofChange hourMoreSpec)) hourMoreCard

/-- THE TIED CARD OF 'stearinlaw09.HourBoxes'. -/
def hourBoxesCard : Claim7 := { stood := { row := hourBoxesRow, standIns := [], harness := (true, "7cd504190454c775656696f643f322fac7ca65a9cc976f73dda986f79b1226ba"), looks := true }, kinds := [], alts := [], laidByText := true, laidKinds := [.data, .data, .data, .data, .sentinel, .sentinel, .pinned], laidTests := true, laidLooks := .later }
def HourBoxesCardSaid : Prop := Claim7.holds Tryz.pinned (.plain (OpenSpec.ofChange hourBoxesSpec)) hourBoxesCard

/-- THE TIED CARD OF 'stearinlaw09.HourRound'. -/
def hourRoundCard : Claim7 := { stood := { row := hourRoundRow, standIns := [], harness := (true, "7cd504190454c775656696f643f322fac7ca65a9cc976f73dda986f79b1226ba"), looks := true }, kinds := [], alts := [], laidByText := true, laidKinds := [.data, .data, .data, .data, .sentinel, .sentinel, .pinned], laidTests := true, laidLooks := .later }
def HourRoundCardSaid : Prop := Claim7.holds Tryz.pinned (.plain (OpenSpec.ofChange hourRoundSpec)) hourRoundCard

/-- THE SECOND FORM's CARD OF 'stearinlaw09.HourChecks'. -/
def hourChecksUptoCard : Claim7 := { stood := { row := hourChecksUptoRow, standIns := [], harness := (true, "7cd504190454c775656696f643f322fac7ca65a9cc976f73dda986f79b1226ba"), looks := true }, kinds := [], alts := [], laidByText := true, laidKinds := [.data, .data, .data, .data, .sentinel, .sentinel, .pinned], laidTests := true, laidLooks := .later }
def HourChecksUptoCardSaid : Prop := Claim7.holds Tryz.pinned (.plain (OpenSpec.upto hourChecksSpec)) hourChecksUptoCard

/-- THE SECOND FORM's CARD OF 'stearinlaw09.HourTexts'. -/
def hourTextsUptoCard : Claim7 := { stood := { row := hourTextsUptoRow, standIns := [], harness := (true, "7cd504190454c775656696f643f322fac7ca65a9cc976f73dda986f79b1226ba"), looks := true }, kinds := [], alts := [], laidByText := true, laidKinds := [.data, .data, .data, .data, .sentinel, .sentinel, .pinned], laidTests := true, laidLooks := .later }
def HourTextsUptoCardSaid : Prop := Claim7.holds Tryz.pinned (.plain (OpenSpec.upto hourTextsSpec)) hourTextsUptoCard

/-- THE SECOND FORM's CARD OF 'stearinlaw09.HourKnown'. -/
def hourKnownUptoCard : Claim7 := { stood := { row := hourKnownUptoRow, standIns := [], harness := (true, "7cd504190454c775656696f643f322fac7ca65a9cc976f73dda986f79b1226ba"), looks := true }, kinds := [], alts := [], laidByText := true, laidKinds := [.data, .data, .data, .data, .sentinel, .sentinel, .pinned], laidTests := true, laidLooks := .later }
def HourKnownUptoCardSaid : Prop := Claim7.holds Tryz.pinned (.plain (OpenSpec.upto hourKnownSpec)) hourKnownUptoCard

/-- THE SECOND FORM's CARD OF 'stearinlaw09.HourTruth'. -/
def hourTruthUptoCard : Claim7 := { stood := { row := hourTruthUptoRow, standIns := [], harness := (true, "7cd504190454c775656696f643f322fac7ca65a9cc976f73dda986f79b1226ba"), looks := true }, kinds := [], alts := [], laidByText := true, laidKinds := [.data, .data, .data, .data, .sentinel, .sentinel, .pinned], laidTests := true, laidLooks := .later }
def HourTruthUptoCardSaid : Prop := Claim7.holds Tryz.pinned (.plain (OpenSpec.upto hourTruthSpec)) hourTruthUptoCard

/-- THE SECOND FORM's CARD OF 'stearinlaw09.HourReached'. -/
def hourReachedUptoCard : Claim7 := { stood := { row := hourReachedUptoRow, standIns := [], harness := (true, "7cd504190454c775656696f643f322fac7ca65a9cc976f73dda986f79b1226ba"), looks := true }, kinds := [], alts := [], laidByText := true, laidKinds := [.data, .data, .data, .data, .sentinel, .sentinel, .pinned], laidTests := true, laidLooks := .later }
def HourReachedUptoCardSaid : Prop := Claim7.holds Tryz.pinned (.plain (OpenSpec.upto hourReachedSpec)) hourReachedUptoCard

/-- THE SECOND FORM's CARD OF 'stearinlaw09.HourKept'. -/
def hourKeptUptoCard : Claim7 := { stood := { row := hourKeptUptoRow, standIns := [], harness := (true, "7cd504190454c775656696f643f322fac7ca65a9cc976f73dda986f79b1226ba"), looks := true }, kinds := [], alts := [], laidByText := true, laidKinds := [.data, .data, .data, .data, .sentinel, .sentinel, .pinned], laidTests := true, laidLooks := .later }
def HourKeptUptoCardSaid : Prop := Claim7.holds Tryz.pinned (.plain (OpenSpec.upto hourKeptSpec)) hourKeptUptoCard

/-- THE SECOND FORM's CARD OF 'stearinlaw09.HourRules'. -/
def hourRulesUptoCard : Claim7 := { stood := { row := hourRulesUptoRow, standIns := [], harness := (true, "7cd504190454c775656696f643f322fac7ca65a9cc976f73dda986f79b1226ba"), looks := true }, kinds := [], alts := [], laidByText := true, laidKinds := [.data, .data, .data, .data, .sentinel, .sentinel, .pinned], laidTests := true, laidLooks := .later }
def HourRulesUptoCardSaid : Prop := Claim7.holds Tryz.pinned (.plain (OpenSpec.upto hourRulesSpec)) hourRulesUptoCard

/-- THE SECOND FORM's CARD OF 'stearinlaw09.HourOdd'. -/
def hourOddUptoCard : Claim7 := { stood := { row := hourOddUptoRow, standIns := [], harness := (true, "7cd504190454c775656696f643f322fac7ca65a9cc976f73dda986f79b1226ba"), looks := true }, kinds := [], alts := [], laidByText := true, laidKinds := [.data, .data, .data, .data, .sentinel, .sentinel, .pinned], laidTests := true, laidLooks := .later }
def HourOddUptoCardSaid : Prop := Claim7.holds Tryz.pinned (.plain (OpenSpec.upto hourOddSpec)) hourOddUptoCard

/-- THE SECOND FORM's CARD OF 'stearinlaw09.HourMore'. -/
def hourMoreUptoCard : Claim7 := { stood := { row := hourMoreUptoRow, standIns := [], harness := (true, "7cd504190454c775656696f643f322fac7ca65a9cc976f73dda986f79b1226ba"), looks := true }, kinds := [], alts := [], laidByText := true, laidKinds := [.data, .data, .data, .data, .sentinel, .sentinel, .pinned], laidTests := true, laidLooks := .later }
def HourMoreUptoCardSaid : Prop := Claim7.holds Tryz.pinned (.plain (OpenSpec.upto hourMoreSpec)) hourMoreUptoCard

/-- THE SECOND FORM's CARD OF 'stearinlaw09.HourBoxes'. -/
def hourBoxesUptoCard : Claim7 := { stood := { row := hourBoxesUptoRow, standIns := [], harness := (true, "7cd504190454c775656696f643f322fac7ca65a9cc976f73dda986f79b1226ba"), looks := true }, kinds := [], alts := [], laidByText := true, laidKinds := [.data, .data, .data, .data, .sentinel, .sentinel, .pinned], laidTests := true, laidLooks := .later }
def HourBoxesUptoCardSaid : Prop := Claim7.holds Tryz.pinned (.plain (OpenSpec.upto hourBoxesSpec)) hourBoxesUptoCard

/-- THE SECOND FORM's CARD OF 'stearinlaw09.HourRound'. -/
def hourRoundUptoCard : Claim7 := { stood := { row := hourRoundUptoRow, standIns := [], harness := (true, "7cd504190454c775656696f643f322fac7ca65a9cc976f73dda986f79b1226ba"), looks := true }, kinds := [], alts := [], laidByText := true, laidKinds := [.data, .data, .data, .data, .sentinel, .sentinel, .pinned], laidTests := true, laidLooks := .later }
def HourRoundUptoCardSaid : Prop := Claim7.holds Tryz.pinned (.plain (OpenSpec.upto hourRoundSpec)) hourRoundUptoCard
end Rows
end Go.Proofs.YtdellinghbppgaaGreatDoor
