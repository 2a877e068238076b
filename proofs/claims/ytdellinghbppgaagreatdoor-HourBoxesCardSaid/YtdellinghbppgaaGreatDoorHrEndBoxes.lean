/-
  THE CARD OF THE LAW HourBoxes: Broken names a box just if the promise of its kind is below its hours. No conditions.
-/
import Derived.Test.YtdellinghbppgaaGreatDoorHrEnd0
import Derived.Test.YtdellinghbppgaaGreatDoorCards
import Derived.Test.YtdellinghbppgaaGreatDoorHrLaw1
import Derived.WalkKit
import Derived.ProofKit
import Derived.SevenTiedAt
import Derived.Stop.Joined
namespace Go.Proofs.YtdellinghbppgaaGreatDoor
open Go.ChangeShapes Go.WideShapes Go.ChangeAt Go.RowKit
namespace Abs
set_option maxRecDepth 100000
theorem okBoxes : ∀ t, t ∈ ([25, 50, 84] : List TypeId) → okT Tryz.prog 8 t = true ∧ Tryz.prog.readableRec t = true ∧ t < Tryz.prog.types.size := by
  intro t ht
  simp only [List.mem_cons, List.not_mem_nil, or_false] at ht
  rcases ht with rfl | rfl | rfl
  · exact okk25
  · exact okk50
  · exact okk84
theorem liftedBoxes (os : Os) (started : os.Started) (H : Type) (enc : TypeId × Value → H) :
    ReturnsInHanded {} Tryz.checked os 12 .any (fun w args => (Rows.hourBoxesSpec.pre enc Tryz.prog Tryz.f12 [] false w args ∧ laidMetH Tryz.prog listed w) ∧ sizedMet enc Tryz.prog Tryz.f12 (OpenSpec.ofChange Rows.hourBoxesSpec) false w args)
      (Rows.hourBoxesSpec.post enc Tryz.prog Tryz.f12 false true false false) := by
  refine returnsInHanded_of_change_and (C := Tryz.checked) (X := fun w _ => laidMetH Tryz.prog listed w) (fun _ _ _ hh h => h.of_heap hh) ownKn started (by kernel_rfl) Tryz.func12
    (ChangeSpec.witness_shaped (enc := enc) (C := Tryz.checked) (os := os) (X := fun w _ => laidMetH Tryz.prog listed w) false (World.laidAll Tryz.prog os listed) #[.agg #[.slice none 0 0, .slice none 0 0, .int .i64 0], .slice none 0 0, .slice none 0 0] 8 (World.laidAll_os _ _ _)
      (World.shaped_of_ZipB (by kernel_rfl) (by kernel_rfl)) (by kernel_rfl) (by kernel_rfl) (by kernel_rfl)
      (by rw [MakeChecks.laidMetH_plain _ _ _ (by kernel_rfl)]; exact laidMet_laidAll _ (by kernel_rfl) (by kernel_rfl))) ?_
  intro W base args ds gs before hval hW _ _ hL _
  refine law_contract (fn := Tryz.f12) (ts := [25, 50, 84]) (tb := 4) (n := 8) (by kernel_rfl) (by kernel_rfl) (by kernel_rfl) laid okBoxes rfl ?_ ?_ (gok hL) hval hW
  · intro H ds h
    match ds, h with
    | [d0, d1, d2], _ => rfl
  · rintro qs ⟨v0, r0, rfl, h0, ⟨v1, r1, rfl, h1, ⟨v2, r2, rfl, h2, rfl⟩⟩⟩
    obtain ⟨s0, rfl⟩ := shop_of h0
    obtain ⟨l1, rfl⟩ := tests_of h1
    obtain ⟨b2, rfl⟩ := boxes_of h2
    exact lHourBoxes s0 l1 b2
end Abs
open Abs
theorem boxes_row : Rows.HourBoxesSaid :=
  OpenClaim.holds_of_wide 12 Tryz.f12 rfl rfl rfl rfl rfl rfl rfl ⟨rfl, rfl, rfl, rfl, rfl⟩ rfl rfl rfl rfl rfl (by kernel_rfl) Tryz.func12 (by kernel_rfl)
    (of_decide_eq_true (by kernel_rfl)) (by unfold Func.isWrapper; first | (rw [if_pos (by decide +kernel)]; kernel_rfl) | (rw [if_neg (by decide +kernel)]; exact ⟨rfl, rfl⟩))
    (fun os started H enc _ => liftedBoxes os started H enc)
theorem boxes_holds : Rows.HourBoxesCardSaid :=
  Claim7.holds_tied_plain_at .later [] [.data, .data, .data, .data, .sentinel, .sentinel, .pinned] true (true, "7cd504190454c775656696f643f322fac7ca65a9cc976f73dda986f79b1226ba") true
    boxes_row (fun _ h => by cases h) (by kernel_rfl) (fun _ h => by cases h) hourBoxes_row_tie rfl ⟨rfl, rfl⟩ (by kernel_rfl) rfl
    (fun f fn hf hfn => by
      obtain rfl : f = 12 := Option.some.inj ((show Tryz.prog.funcNamed "stearin/stearinlaw09.HourBoxes" = some 12 by kernel_rfl).symm.trans hf) |>.symm
      obtain rfl : fn = Tryz.f12 := (Option.some.inj (Tryz.func12.symm.trans hfn)).symm
      exact ⟨by kernel_rfl, fun j t ht => by
        have hp : Tryz.f12.params = #[25, 50, 84] := by kernel_rfl
        rw [hp] at ht
        have hm : t ∈ ([25, 50, 84] : List TypeId) := by simpa using Array.mem_of_getElem? ht
        have hall : (([25, 50, 84] : List TypeId).all fun u => !Tryz.prog.wantsStandIn u) = true := by kernel_rfl
        exact (show Tryz.prog.wantsStandIn t = false by simpa using List.all_eq_true.1 hall t hm)⟩)
    (by kernel_rfl)
#print axioms boxes_holds
end Go.Proofs.YtdellinghbppgaaGreatDoor
