/-
  DERIVED. GIVEN WITH THE SEED: THE CARDS: each row of YtfafnkpfamgbbaaGreatDoorRows.lean that lists a variable, with what it lists TIED to the program's text (the seventh form; the later family's looks); each row that meets fmt, with fmt's text TOLD by the authors' own Lean function (tested against real Go, not proved from fmt's source: count such statements apart). THE CARD IS WHAT COUNTS. Prove the row's statement (the work); the ties are given (YtfafnkpfamgbbaaGreatDoorTie.lean); close each card by the builder's one call (the guide's Derived/Test/ToyasCard.lean, 'card_holds'). Laid BY PROGRAM, IN A SANDBOX (cutbox-door.mjs). By AI agents, Wed Nov 11 2026. No macro, syntax, notation, axiom, sorry.
-/
import Derived.Test.YtfafnkpfamgbbaaGreatDoorRows
import GoSem.ClaimSeven
namespace Go.Proofs.YtfafnkpfamgbbaaGreatDoor
namespace Rows

/-- THE TIED CARD OF 'stearinlaw13.ChandlerReplayed'. -/
def chandlerReplayedCard : Claim7 := { stood := { row := chandlerReplayedRow, standIns := [], harness := (true, "e5a92676fbd9e816f2ba7bd1442cea2ddc527578d163a5b2b37575fa97a78d94"), looks := true }, kinds := [], alts := [], laidByText := true, laidKinds := [.data, .data, .data, .data, .sentinel, .sentinel, .pinned], laidTests := true, laidLooks := .later }
def ChandlerReplayedCardSaid : Prop := Claim7.holds Tryz.pinned (.plain (OpenSpec.ofChange chandlerReplayedSpec)) chandlerReplayedCard

/-- THE TIED CARD OF 'stearinlaw13.ChandlerRefused'. -/
def chandlerRefusedCard : Claim7 := { stood := { row := chandlerRefusedRow, standIns := [], harness := (true, "e5a92676fbd9e816f2ba7bd1442cea2ddc527578d163a5b2b37575fa97a78d94"), looks := true }, kinds := [], alts := [], laidByText := true, laidKinds := [.data, .data, .data, .data, .sentinel, .sentinel, .pinned], laidTests := true, laidLooks := .later }
def ChandlerRefusedCardSaid : Prop := Claim7.holds Tryz.pinned (.plain (OpenSpec.ofChange chandlerRefusedSpec)) chandlerRefusedCard

/-- THE TIED CARD OF 'stearinlaw13.ChandlerFirst'. -/
def chandlerFirstCard : Claim7 := { stood := { row := chandlerFirstRow, standIns := [], harness := (true, "e5a92676fbd9e816f2ba7bd1442cea2ddc527578d163a5b2b37575fa97a78d94"), looks := true }, kinds := [], alts := [], laidByText := true, laidKinds := [.data, .data, .data, .data, .sentinel, .sentinel, .pinned], laidTests := true, laidLooks := .later }
def ChandlerFirstCardSaid : Prop := Claim7.holds Tryz.pinned (.plain (OpenSpec.ofChange chandlerFirstSpec)) chandlerFirstCard

/-- THE TIED CARD OF 'stearinlaw13.ChandlerDropped'. -/
def chandlerDroppedCard : Claim7 := { stood := { row := chandlerDroppedRow, standIns := [], harness := (true, "e5a92676fbd9e816f2ba7bd1442cea2ddc527578d163a5b2b37575fa97a78d94"), looks := true }, kinds := [], alts := [], laidByText := true, laidKinds := [.data, .data, .data, .data, .sentinel, .sentinel, .pinned], laidTests := true, laidLooks := .later }
def ChandlerDroppedCardSaid : Prop := Claim7.holds Tryz.pinned (.plain (OpenSpec.ofChange chandlerDroppedSpec)) chandlerDroppedCard

/-- THE SECOND FORM's CARD OF 'stearinlaw13.ChandlerReplayed'. -/
def chandlerReplayedUptoCard : Claim7 := { stood := { row := chandlerReplayedUptoRow, standIns := [], harness := (true, "e5a92676fbd9e816f2ba7bd1442cea2ddc527578d163a5b2b37575fa97a78d94"), looks := true }, kinds := [], alts := [], laidByText := true, laidKinds := [.data, .data, .data, .data, .sentinel, .sentinel, .pinned], laidTests := true, laidLooks := .later }
def ChandlerReplayedUptoCardSaid : Prop := Claim7.holds Tryz.pinned (.plain (OpenSpec.upto chandlerReplayedSpec)) chandlerReplayedUptoCard

/-- THE SECOND FORM's CARD OF 'stearinlaw13.ChandlerRefused'. -/
def chandlerRefusedUptoCard : Claim7 := { stood := { row := chandlerRefusedUptoRow, standIns := [], harness := (true, "e5a92676fbd9e816f2ba7bd1442cea2ddc527578d163a5b2b37575fa97a78d94"), looks := true }, kinds := [], alts := [], laidByText := true, laidKinds := [.data, .data, .data, .data, .sentinel, .sentinel, .pinned], laidTests := true, laidLooks := .later }
def ChandlerRefusedUptoCardSaid : Prop := Claim7.holds Tryz.pinned (.plain (OpenSpec.upto chandlerRefusedSpec)) chandlerRefusedUptoCard

/-- THE SECOND FORM's CARD OF 'stearinlaw13.ChandlerFirst'. -/
def chandlerFirstUptoCard : Claim7 := { stood := { row := chandlerFirstUptoRow, standIns := [], harness := (true, "e5a92676fbd9e816f2ba7bd1442cea2ddc527578d163a5b2b37575fa97a78d94"), looks := true }, kinds := [], alts := [], laidByText := true, laidKinds := [.data, .data, .data, .data, .sentinel, .sentinel, .pinned], laidTests := true, laidLooks := .later }
def ChandlerFirstUptoCardSaid : Prop := Claim7.holds Tryz.pinned (.plain (OpenSpec.upto chandlerFirstSpec)) chandlerFirstUptoCard

/-- THE SECOND FORM's CARD OF 'stearinlaw13.ChandlerDropped'. -/
def chandlerDroppedUptoCard : Claim7 := { stood := { row := chandlerDroppedUptoRow, standIns := [], harness := (true, "e5a92676fbd9e816f2ba7bd1442cea2ddc527578d163a5b2b37575fa97a78d94"), looks := true }, kinds := [], alts := [], laidByText := true, laidKinds := [.data, .data, .data, .data, .sentinel, .sentinel, .pinned], laidTests := true, laidLooks := .later }
def ChandlerDroppedUptoCardSaid : Prop := Claim7.holds Tryz.pinned (.plain (OpenSpec.upto chandlerDroppedSpec)) chandlerDroppedUptoCard
end Rows
end Go.Proofs.YtfafnkpfamgbbaaGreatDoor
