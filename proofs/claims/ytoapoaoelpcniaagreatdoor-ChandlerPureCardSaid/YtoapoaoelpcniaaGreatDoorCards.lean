/-
  DERIVED. GIVEN WITH THE SEED: THE CARDS: each row of YtoapoaoelpcniaaGreatDoorRows.lean that lists a variable, with what it lists TIED to the program's text (the seventh form; the later family's looks); each row that meets fmt, with fmt's text TOLD by the authors' own Lean function (tested against real Go, not proved from fmt's source: count such statements apart). THE CARD IS WHAT COUNTS. Prove the row's statement (the work); the ties are given (YtoapoaoelpcniaaGreatDoorTie.lean); close each card by the builder's one call (the guide's Derived/Test/ToyasCard.lean, 'card_holds'). Laid BY PROGRAM, IN A SANDBOX (cutbox-door.mjs). By AI agents, Wed Nov 11 2026. No macro, syntax, notation, axiom, sorry.
-/
import Derived.Test.YtoapoaoelpcniaaGreatDoorRows
import GoSem.ClaimSeven
namespace Go.Proofs.YtoapoaoelpcniaaGreatDoor
namespace Rows

/-- THE TIED CARD OF 'stearinlaw13.ChandlerWeighed'. -/
def chandlerWeighedCard : Claim7 := { stood := { row := chandlerWeighedRow, standIns := [], harness := (true, "258fc1a9003db9c48ccfd3d94dab1f9ec504113ffbd4891cc62b54fd1f64134a"), looks := true }, kinds := [], alts := [], laidByText := true, laidKinds := [.data, .data, .data, .data, .sentinel, .sentinel, .pinned], laidTests := true, laidLooks := .later }
def ChandlerWeighedCardSaid : Prop := Claim7.holds Tryz.pinned (.plain (OpenSpec.ofChange chandlerWeighedSpec)) chandlerWeighedCard

/-- THE TIED CARD OF 'stearinlaw13.ChandlerPure'. -/
def chandlerPureCard : Claim7 := { stood := { row := chandlerPureRow, standIns := [], harness := (true, "258fc1a9003db9c48ccfd3d94dab1f9ec504113ffbd4891cc62b54fd1f64134a"), looks := true }, kinds := [], alts := [], laidByText := true, laidKinds := [.data, .data, .data, .data, .sentinel, .sentinel, .pinned], laidTests := true, laidLooks := .later }
def ChandlerPureCardSaid : Prop := Claim7.holds Tryz.pinned (.plain (OpenSpec.ofChange chandlerPureSpec)) chandlerPureCard

/-- THE TIED CARD OF 'stearinlaw13.ChandlerPoured'. -/
def chandlerPouredCard : Claim7 := { stood := { row := chandlerPouredRow, standIns := [], harness := (true, "258fc1a9003db9c48ccfd3d94dab1f9ec504113ffbd4891cc62b54fd1f64134a"), looks := true }, kinds := [], alts := [], laidByText := true, laidKinds := [.data, .data, .data, .data, .sentinel, .sentinel, .pinned], laidTests := true, laidLooks := .later }
def ChandlerPouredCardSaid : Prop := Claim7.holds Tryz.pinned (.plain (OpenSpec.ofChange chandlerPouredSpec)) chandlerPouredCard

/-- THE TIED CARD OF 'stearinlaw13.ChandlerBoxes'. -/
def chandlerBoxesCard : Claim7 := { stood := { row := chandlerBoxesRow, standIns := [], harness := (true, "258fc1a9003db9c48ccfd3d94dab1f9ec504113ffbd4891cc62b54fd1f64134a"), looks := true }, kinds := [], alts := [], laidByText := true, laidKinds := [.data, .data, .data, .data, .sentinel, .sentinel, .pinned], laidTests := true, laidLooks := .later }
def ChandlerBoxesCardSaid : Prop := Claim7.holds Tryz.pinned (.plain (OpenSpec.ofChange chandlerBoxesSpec)) chandlerBoxesCard

/-- THE SECOND FORM's CARD OF 'stearinlaw13.ChandlerWeighed'. -/
def chandlerWeighedUptoCard : Claim7 := { stood := { row := chandlerWeighedUptoRow, standIns := [], harness := (true, "258fc1a9003db9c48ccfd3d94dab1f9ec504113ffbd4891cc62b54fd1f64134a"), looks := true }, kinds := [], alts := [], laidByText := true, laidKinds := [.data, .data, .data, .data, .sentinel, .sentinel, .pinned], laidTests := true, laidLooks := .later }
def ChandlerWeighedUptoCardSaid : Prop := Claim7.holds Tryz.pinned (.plain (OpenSpec.upto chandlerWeighedSpec)) chandlerWeighedUptoCard

/-- THE SECOND FORM's CARD OF 'stearinlaw13.ChandlerPure'. -/
def chandlerPureUptoCard : Claim7 := { stood := { row := chandlerPureUptoRow, standIns := [], harness := (true, "258fc1a9003db9c48ccfd3d94dab1f9ec504113ffbd4891cc62b54fd1f64134a"), looks := true }, kinds := [], alts := [], laidByText := true, laidKinds := [.data, .data, .data, .data, .sentinel, .sentinel, .pinned], laidTests := true, laidLooks := .later }
def ChandlerPureUptoCardSaid : Prop := Claim7.holds Tryz.pinned (.plain (OpenSpec.upto chandlerPureSpec)) chandlerPureUptoCard

/-- THE SECOND FORM's CARD OF 'stearinlaw13.ChandlerPoured'. -/
def chandlerPouredUptoCard : Claim7 := { stood := { row := chandlerPouredUptoRow, standIns := [], harness := (true, "258fc1a9003db9c48ccfd3d94dab1f9ec504113ffbd4891cc62b54fd1f64134a"), looks := true }, kinds := [], alts := [], laidByText := true, laidKinds := [.data, .data, .data, .data, .sentinel, .sentinel, .pinned], laidTests := true, laidLooks := .later }
def ChandlerPouredUptoCardSaid : Prop := Claim7.holds Tryz.pinned (.plain (OpenSpec.upto chandlerPouredSpec)) chandlerPouredUptoCard

/-- THE SECOND FORM's CARD OF 'stearinlaw13.ChandlerBoxes'. -/
def chandlerBoxesUptoCard : Claim7 := { stood := { row := chandlerBoxesUptoRow, standIns := [], harness := (true, "258fc1a9003db9c48ccfd3d94dab1f9ec504113ffbd4891cc62b54fd1f64134a"), looks := true }, kinds := [], alts := [], laidByText := true, laidKinds := [.data, .data, .data, .data, .sentinel, .sentinel, .pinned], laidTests := true, laidLooks := .later }
def ChandlerBoxesUptoCardSaid : Prop := Claim7.holds Tryz.pinned (.plain (OpenSpec.upto chandlerBoxesSpec)) chandlerBoxesUptoCard
end Rows
end Go.Proofs.YtoapoaoelpcniaaGreatDoor
