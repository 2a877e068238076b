/-
  DERIVED. GIVEN WITH THE SEED: THE CARDS: each row of YtgafommgcfhkkaaGreatDoorRows.lean that lists a variable, with what it lists TIED to the program's text (the seventh form; the later family's looks); each row that meets fmt, with fmt's text TOLD by the authors' own Lean function (tested against real Go, not proved from fmt's source: count such statements apart). THE CARD IS WHAT COUNTS. Prove the row's statement (the work); the ties are given (YtgafommgcfhkkaaGreatDoorTie.lean); close each card by the builder's one call (the guide's Derived/Test/ToyasCard.lean, 'card_holds'). Laid BY PROGRAM, IN A SANDBOX (cutbox-door.mjs). By AI agents, Wed Nov 11 2026. No macro, syntax, notation, axiom, sorry.
-/
import Derived.Test.YtgafommgcfhkkaaGreatDoorRows
import GoSem.ClaimSeven
namespace Go.Proofs.YtgafommgcfhkkaaGreatDoor
namespace Rows

/-- THE TIED CARD OF 'stearinlaw13.ChandlerWorks'. -/
def chandlerWorksCard : Claim7 := { stood := { row := chandlerWorksRow, standIns := [], harness := (true, "1a432796f96f806986bea0405adbb390e536474e9f6fcb4624e3afa358718c39"), looks := true }, kinds := [], alts := [], laidByText := true, laidKinds := [.data, .data, .data, .data, .sentinel, .sentinel, .pinned], laidTests := true, laidLooks := .later }
def ChandlerWorksCardSaid : Prop := Claim7.holds Tryz.pinned (.plain (OpenSpec.ofChange chandlerWorksSpec)) chandlerWorksCard

/-- THE TIED CARD OF 'stearinlaw13.ChandlerCards'. -/
def chandlerCardsCard : Claim7 := { stood := { row := chandlerCardsRow, standIns := [], harness := (true, "1a432796f96f806986bea0405adbb390e536474e9f6fcb4624e3afa358718c39"), looks := true }, kinds := [], alts := [], laidByText := true, laidKinds := [.data, .data, .data, .data, .sentinel, .sentinel, .pinned], laidTests := true, laidLooks := .later }
def ChandlerCardsCardSaid : Prop := Claim7.holds Tryz.pinned (.plain (OpenSpec.ofChange chandlerCardsSpec)) chandlerCardsCard

/-- THE SECOND FORM's CARD OF 'stearinlaw13.ChandlerWorks'. -/
def chandlerWorksUptoCard : Claim7 := { stood := { row := chandlerWorksUptoRow, standIns := [], harness := (true, "1a432796f96f806986bea0405adbb390e536474e9f6fcb4624e3afa358718c39"), looks := true }, kinds := [], alts := [], laidByText := true, laidKinds := [.data, .data, .data, .data, .sentinel, .sentinel, .pinned], laidTests := true, laidLooks := .later }
def ChandlerWorksUptoCardSaid : Prop := Claim7.holds Tryz.pinned (.plain (OpenSpec.upto chandlerWorksSpec)) chandlerWorksUptoCard

/-- THE SECOND FORM's CARD OF 'stearinlaw13.ChandlerCards'. -/
def chandlerCardsUptoCard : Claim7 := { stood := { row := chandlerCardsUptoRow, standIns := [], harness := (true, "1a432796f96f806986bea0405adbb390e536474e9f6fcb4624e3afa358718c39"), looks := true }, kinds := [], alts := [], laidByText := true, laidKinds := [.data, .data, .data, .data, .sentinel, .sentinel, .pinned], laidTests := true, laidLooks := .later }
def ChandlerCardsUptoCardSaid : Prop := Claim7.holds Tryz.pinned (.plain (OpenSpec.upto chandlerCardsSpec)) chandlerCardsUptoCard
end Rows
end Go.Proofs.YtgafommgcfhkkaaGreatDoor
