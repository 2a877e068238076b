/-
  DERIVED. GIVEN WITH THE SEED: THE CARDS: each row of YtmndpldajflenaaGreatDoorRows.lean that lists a variable, with what it lists TIED to the program's text (the seventh form; the later family's looks); each row that meets fmt, with fmt's text TOLD by the authors' own Lean function (tested against real Go, not proved from fmt's source: count such statements apart). THE CARD IS WHAT COUNTS. Prove the row's statement (the work); the ties are given (YtmndpldajflenaaGreatDoorTie.lean); close each card by the builder's one call (the guide's Derived/Test/ToyasCard.lean, 'card_holds'). Laid BY PROGRAM, IN A SANDBOX (cutbox-door.mjs). By AI agents, Wed Nov 11 2026. No macro, syntax, notation, axiom, sorry.
-/
import Derived.Test.YtmndpldajflenaaGreatDoorRows
import GoSem.ClaimSeven
namespace Go.Proofs.YtmndpldajflenaaGreatDoor
namespace Rows

/-- THE TIED CARD OF 'stearintop.TopBent'. -/
def topBentCard : Claim7 := { stood := { row := topBentRow, standIns := [], harness := (true, "9231f6c7b261a1e1a746ea73bb2f08b0138cbf8865396cd7d350193e74fb6bf4"), looks := true }, kinds := [], alts := [], laidByText := true, laidKinds := [.data, .data, .data, .data, .sentinel, .sentinel, .pinned], laidTests := true, laidLooks := .later }
def TopBentCardSaid : Prop := Claim7.holds Tryz.pinned (.plain (OpenSpec.ofChange topBentSpec)) topBentCard

/-- THE TIED CARD OF 'stearinlaw13.ChandlerDropped'. -/
def chandlerDroppedCard : Claim7 := { stood := { row := chandlerDroppedRow, standIns := [], harness := (true, "9231f6c7b261a1e1a746ea73bb2f08b0138cbf8865396cd7d350193e74fb6bf4"), looks := true }, kinds := [], alts := [], laidByText := true, laidKinds := [.data, .data, .data, .data, .sentinel, .sentinel, .pinned], laidTests := true, laidLooks := .later }
def ChandlerDroppedCardSaid : Prop := Claim7.holds Tryz.pinned (.plain (OpenSpec.ofChange chandlerDroppedSpec)) chandlerDroppedCard

/-- THE SECOND FORM's CARD OF 'stearintop.TopBent'. -/
def topBentUptoCard : Claim7 := { stood := { row := topBentUptoRow, standIns := [], harness := (true, "9231f6c7b261a1e1a746ea73bb2f08b0138cbf8865396cd7d350193e74fb6bf4"), looks := true }, kinds := [], alts := [], laidByText := true, laidKinds := [.data, .data, .data, .data, .sentinel, .sentinel, .pinned], laidTests := true, laidLooks := .later }
def TopBentUptoCardSaid : Prop := Claim7.holds Tryz.pinned (.plain (OpenSpec.upto topBentSpec)) topBentUptoCard

/-- THE SECOND FORM's CARD OF 'stearinlaw13.ChandlerDropped'. -/
def chandlerDroppedUptoCard : Claim7 := { stood := { row := chandlerDroppedUptoRow, standIns := [], harness := (true, "9231f6c7b261a1e1a746ea73bb2f08b0138cbf8865396cd7d350193e74fb6bf4"), looks := true }, kinds := [], alts := [], laidByText := true, laidKinds := [.data, .data, .data, .data, .sentinel, .sentinel, .pinned], laidTests := true, laidLooks := .later }
def ChandlerDroppedUptoCardSaid : Prop := Claim7.holds Tryz.pinned (.plain (OpenSpec.upto chandlerDroppedSpec)) chandlerDroppedUptoCard
end Rows
end Go.Proofs.YtmndpldajflenaaGreatDoor
