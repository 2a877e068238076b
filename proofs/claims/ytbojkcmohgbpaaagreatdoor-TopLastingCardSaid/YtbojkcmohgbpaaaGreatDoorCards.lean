/-
  DERIVED. GIVEN WITH THE SEED: THE CARDS: each row of YtbojkcmohgbpaaaGreatDoorRows.lean that lists a variable, with what it lists TIED to the program's text (the seventh form; the later family's looks); each row that meets fmt, with fmt's text TOLD by the authors' own Lean function (tested against real Go, not proved from fmt's source: count such statements apart). THE CARD IS WHAT COUNTS. Prove the row's statement (the work); the ties are given (YtbojkcmohgbpaaaGreatDoorTie.lean); close each card by the builder's one call (the guide's Derived/Test/ToyasCard.lean, 'card_holds'). Laid BY PROGRAM, IN A SANDBOX (cutbox-door.mjs). By AI agents, Wed Nov 11 2026. No macro, syntax, notation, axiom, sorry.
-/
import Derived.Test.YtbojkcmohgbpaaaGreatDoorRows
import GoSem.ClaimSeven
namespace Go.Proofs.YtbojkcmohgbpaaaGreatDoor
namespace Rows

/-- THE TIED CARD OF 'stearintop.TopLasting'. -/
def topLastingCard : Claim7 := { stood := { row := topLastingRow, standIns := [], harness := (true, "f4aae9a9f03ffc82df546cf627cc0bac536dbdbb6c6be84d4da75de651c8fc03"), looks := true }, kinds := [], alts := [], laidByText := true, laidKinds := [.data, .data, .data, .data, .sentinel, .sentinel, .pinned], laidTests := true, laidLooks := .later }
def TopLastingCardSaid : Prop := Claim7.holds Tryz.pinned (.plain (OpenSpec.ofChange topLastingSpec)) topLastingCard

/-- THE SECOND FORM's CARD OF 'stearintop.TopLasting'. -/
def topLastingUptoCard : Claim7 := { stood := { row := topLastingUptoRow, standIns := [], harness := (true, "f4aae9a9f03ffc82df546cf627cc0bac536dbdbb6c6be84d4da75de651c8fc03"), looks := true }, kinds := [], alts := [], laidByText := true, laidKinds := [.data, .data, .data, .data, .sentinel, .sentinel, .pinned], laidTests := true, laidLooks := .later }
def TopLastingUptoCardSaid : Prop := Claim7.holds Tryz.pinned (.plain (OpenSpec.upto topLastingSpec)) topLastingUptoCard
end Rows
end Go.Proofs.YtbojkcmohgbpaaaGreatDoor
