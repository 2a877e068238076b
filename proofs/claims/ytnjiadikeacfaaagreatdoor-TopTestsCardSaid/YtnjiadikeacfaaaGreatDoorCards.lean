/-
  DERIVED. GIVEN WITH THE SEED: THE CARDS: each row of YtnjiadikeacfaaaGreatDoorRows.lean that lists a variable, with what it lists TIED to the program's text (the seventh form; the later family's looks); each row that meets fmt, with fmt's text TOLD by the authors' own Lean function (tested against real Go, not proved from fmt's source: count such statements apart). THE CARD IS WHAT COUNTS. Prove the row's statement (the work); the ties are given (YtnjiadikeacfaaaGreatDoorTie.lean); close each card by the builder's one call (the guide's Derived/Test/ToyasCard.lean, 'card_holds'). Laid BY PROGRAM, IN A SANDBOX (cutbox-door.mjs). By AI agents, Wed Nov 11 2026. No macro, syntax, notation, axiom, sorry.
-/
import Derived.Test.YtnjiadikeacfaaaGreatDoorRows
import GoSem.ClaimSeven
namespace Go.Proofs.YtnjiadikeacfaaaGreatDoor
namespace Rows

/-- THE TIED CARD OF 'stearintop.TopTests'. -/
def topTestsCard : Claim7 := { stood := { row := topTestsRow, standIns := [], harness := (true, "bfb889557882c4748501a859a351521e8b4c37cfddac82dd42bfe77bcd44542b"), looks := true }, kinds := [], alts := [], laidByText := true, laidKinds := [.data, .data, .data, .data, .sentinel, .sentinel, .pinned], laidTests := true, laidLooks := .later }
def TopTestsCardSaid : Prop := Claim7.holds Tryz.pinned (.plain (OpenSpec.ofChange topTestsSpec)) topTestsCard

/-- THE SECOND FORM's CARD OF 'stearintop.TopTests'. -/
def topTestsUptoCard : Claim7 := { stood := { row := topTestsUptoRow, standIns := [], harness := (true, "bfb889557882c4748501a859a351521e8b4c37cfddac82dd42bfe77bcd44542b"), looks := true }, kinds := [], alts := [], laidByText := true, laidKinds := [.data, .data, .data, .data, .sentinel, .sentinel, .pinned], laidTests := true, laidLooks := .later }
def TopTestsUptoCardSaid : Prop := Claim7.holds Tryz.pinned (.plain (OpenSpec.upto topTestsSpec)) topTestsUptoCard
end Rows
end Go.Proofs.YtnjiadikeacfaaaGreatDoor
