/-
  DERIVED. GIVEN WITH THE SEED: THE CARDS: each row of YtahlnclapingiaaGreatDoorRows.lean that lists a variable, with what it lists TIED to the program's text (the seventh form; the later family's looks); each row that meets fmt, with fmt's text TOLD by the authors' own Lean function (tested against real Go, not proved from fmt's source: count such statements apart). THE CARD IS WHAT COUNTS. Prove the row's statement (the work); the ties are given (YtahlnclapingiaaGreatDoorTie.lean); close each card by the builder's one call (the guide's Derived/Test/ToyasCard.lean, 'card_holds'). Laid BY PROGRAM, IN A SANDBOX (cutbox-door.mjs). By AI agents, Wed Nov 11 2026. No macro, syntax, notation, axiom, sorry.
-/
import Derived.Test.YtahlnclapingiaaGreatDoorRows
import GoSem.ClaimSeven
namespace Go.Proofs.YtahlnclapingiaaGreatDoor
namespace Rows

/-- THE TIED CARD OF 'stearinlaw13.ChandlerCards'. -/
def chandlerCardsCard : Claim7 := { stood := { row := chandlerCardsRow, standIns := [], harness := (true, "43af8154df8d7d9c8f1c7c8c81f82d8bf1b29a849508ef9b2588659e4859dc55"), looks := true }, kinds := [], alts := [], laidByText := true, laidKinds := [.data, .data, .data, .data, .sentinel, .sentinel, .pinned], laidTests := true, laidLooks := .later }
def ChandlerCardsCardSaid : Prop := Claim7.holds Tryz.pinned (.plain (OpenSpec.ofChange chandlerCardsSpec)) chandlerCardsCard

/-- THE TIED CARD OF 'stearinlaw13.ChandlerKnown'. -/
def chandlerKnownCard : Claim7 := { stood := { row := chandlerKnownRow, standIns := [], harness := (true, "43af8154df8d7d9c8f1c7c8c81f82d8bf1b29a849508ef9b2588659e4859dc55"), looks := true }, kinds := [], alts := [], laidByText := true, laidKinds := [.data, .data, .data, .data, .sentinel, .sentinel, .pinned], laidTests := true, laidLooks := .later }
def ChandlerKnownCardSaid : Prop := Claim7.holds Tryz.pinned (.plain (OpenSpec.ofChange chandlerKnownSpec)) chandlerKnownCard

/-- THE SECOND FORM's CARD OF 'stearinlaw13.ChandlerCards'. -/
def chandlerCardsUptoCard : Claim7 := { stood := { row := chandlerCardsUptoRow, standIns := [], harness := (true, "43af8154df8d7d9c8f1c7c8c81f82d8bf1b29a849508ef9b2588659e4859dc55"), looks := true }, kinds := [], alts := [], laidByText := true, laidKinds := [.data, .data, .data, .data, .sentinel, .sentinel, .pinned], laidTests := true, laidLooks := .later }
def ChandlerCardsUptoCardSaid : Prop := Claim7.holds Tryz.pinned (.plain (OpenSpec.upto chandlerCardsSpec)) chandlerCardsUptoCard

/-- THE SECOND FORM's CARD OF 'stearinlaw13.ChandlerKnown'. -/
def chandlerKnownUptoCard : Claim7 := { stood := { row := chandlerKnownUptoRow, standIns := [], harness := (true, "43af8154df8d7d9c8f1c7c8c81f82d8bf1b29a849508ef9b2588659e4859dc55"), looks := true }, kinds := [], alts := [], laidByText := true, laidKinds := [.data, .data, .data, .data, .sentinel, .sentinel, .pinned], laidTests := true, laidLooks := .later }
def ChandlerKnownUptoCardSaid : Prop := Claim7.holds Tryz.pinned (.plain (OpenSpec.upto chandlerKnownSpec)) chandlerKnownUptoCard
end Rows
end Go.Proofs.YtahlnclapingiaaGreatDoor
