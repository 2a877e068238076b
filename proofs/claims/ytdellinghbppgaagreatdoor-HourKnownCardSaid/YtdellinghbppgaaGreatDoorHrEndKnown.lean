/-
  THE CARD OF THE LAW HourKnown: the examples of the document. No conditions.
-/
import Derived.Test.YtdellinghbppgaaGreatDoorHrEnd0
import Derived.Test.YtdellinghbppgaaGreatDoorCards
import Derived.Test.YtdellinghbppgaaGreatDoorHrLaw1
import Derived.WalkKit
import Derived.ProofKit
import Derived.SevenTiedAt
import Derived.Stop.Joined
namespace Go.Proofs.YtdellinghbppgaaGreatDoor
open Go.ChangeShapes Go.WideShapes Go.ChangeAt Go.RowKit
namespace Abs
set_option maxRecDepth 100000
theorem okKnown : ∀ t, t ∈ ([] : List TypeId) → okT Tryz.prog 8 t = true ∧ Tryz.prog.readableRec t = true ∧ t < Tryz.prog.types.size := by
  intro t ht
  cases ht
theorem liftedKnown (os : Os) (started : os.Started) (H : Type) (enc : TypeId × Value → H) :
    ReturnsInHanded {} Tryz.checked os 5 .any (fun w args => (Rows.hourKnownSpec.pre enc Tryz.prog Tryz.f5 [] false w args ∧ laidMetH Tryz.prog listed w) ∧ sizedMet enc Tryz.prog Tryz.f5 (OpenSpec.ofChange Rows.hourKnownSpec) false w args)
      (Rows.hourKnownSpec.post enc Tryz.prog Tryz.f5 false true false false) := by
  refine returnsInHanded_of_change_and (C := Tryz.checked) (X := fun w _ => laidMetH Tryz.prog listed w) (fun _ _ _ hh h => h.of_heap hh) ownKn started (by kernel_rfl) Tryz.func5
    (ChangeSpec.witness_shaped (enc := enc) (C := Tryz.checked) (os := os) (X := fun w _ => laidMetH Tryz.prog listed w) false (World.laidAll Tryz.prog os listed) #[] 8 (World.laidAll_os _ _ _)
      (World.shaped_of_ZipB (by kernel_rfl) (by kernel_rfl)) (by kernel_rfl) (by kernel_rfl) (by kernel_rfl)
      (by rw [MakeChecks.laidMetH_plain _ _ _ (by kernel_rfl)]; exact laidMet_laidAll _ (by kernel_rfl) (by kernel_rfl))) ?_
  intro W base args ds gs before hval hW _ _ hL _
  refine law_contract (fn := Tryz.f5) (ts := []) (tb := 4) (n := 8) (by kernel_rfl) (by kernel_rfl) (by kernel_rfl) laid okKnown rfl ?_ ?_ (gok hL) hval hW
  · intro H ds h
    match ds, h with
    | [], _ => rfl
  · rintro qs rfl
    exact lHourKnown
end Abs
open Abs
theorem known_row : Rows.HourKnownSaid :=
  OpenClaim.holds_of_wide 5 Tryz.f5 rfl rfl rfl rfl rfl rfl rfl ⟨rfl, rfl, rfl, rfl, rfl⟩ rfl rfl rfl rfl rfl (by kernel_rfl) Tryz.func5 (by kernel_rfl)
    (of_decide_eq_true (by kernel_rfl)) (by unfold Func.isWrapper; first | (rw [if_pos (by decide +kernel)]; kernel_rfl) | (rw [if_neg (by decide +kernel)]; exact ⟨rfl, rfl⟩))
    (fun os started H enc _ => liftedKnown os started H enc)
theorem known_holds : Rows.HourKnownCardSaid :=
  Claim7.holds_tied_plain_at .later [] [.data, .data, .data, .data, .sentinel, .sentinel, .pinned] true (true, "7cd504190454c775656696f643f322fac7ca65a9cc976f73dda986f79b1226ba") true
    known_row (fun _ h => by cases h) (by kernel_rfl) (fun _ h => by cases h) hourKnown_row_tie rfl ⟨rfl, rfl⟩ (by kernel_rfl) rfl
    (fun f fn hf hfn => by
      obtain rfl : f = 5 := Option.some.inj ((show Tryz.prog.funcNamed "stearin/stearinlaw09.HourKnown" = some 5 by kernel_rfl).symm.trans hf) |>.symm
      obtain rfl : fn = Tryz.f5 := (Option.some.inj (Tryz.func5.symm.trans hfn)).symm
      exact ⟨by kernel_rfl, fun j t ht => by
        have hp : Tryz.f5.params = #[] := by kernel_rfl
        rw [hp] at ht
        have hm : t ∈ ([] : List TypeId) := by simpa using Array.mem_of_getElem? ht
        have hall : (([] : List TypeId).all fun u => !Tryz.prog.wantsStandIn u) = true := by kernel_rfl
        exact (show Tryz.prog.wantsStandIn t = false by simpa using List.all_eq_true.1 hall t hm)⟩)
    (by kernel_rfl)
#print axioms known_holds
end Go.Proofs.YtdellinghbppgaaGreatDoor
