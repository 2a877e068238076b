/-
  THE CARD OF THE LAW HourKept: each candle of a kind burns for the hours of its promise. No conditions.
-/
import Derived.Test.YtdellinghbppgaaGreatDoorHrEnd0
import Derived.Test.YtdellinghbppgaaGreatDoorCards
import Derived.Test.YtdellinghbppgaaGreatDoorHrKept
import Derived.Test.YtdellinghbppgaaGreatDoorHrInv2
import Derived.WalkKit
import Derived.ProofKit
import Derived.SevenTiedAt
import Derived.Stop.Joined
namespace Go.Proofs.YtdellinghbppgaaGreatDoor
open Go.ChangeShapes Go.WideShapes Go.ChangeAt Go.RowKit
namespace Abs
set_option maxRecDepth 100000
theorem okKept : ∀ t, t ∈ ([25, 70] : List TypeId) → okT Tryz.prog 8 t = true ∧ Tryz.prog.readableRec t = true ∧ t < Tryz.prog.types.size := by
  intro t ht
  simp only [List.mem_cons, List.not_mem_nil, or_false] at ht
  rcases ht with rfl | rfl
  · exact okk25
  · exact okk70
theorem liftedKept (os : Os) (started : os.Started) (H : Type) (enc : TypeId × Value → H) :
    ReturnsInHanded {} Tryz.checked os 8 .any (fun w args => (Rows.hourKeptSpec.pre enc Tryz.prog Tryz.f8 [] false w args ∧ laidMetH Tryz.prog listed w) ∧ sizedMet enc Tryz.prog Tryz.f8 (OpenSpec.ofChange Rows.hourKeptSpec) false w args)
      (Rows.hourKeptSpec.post enc Tryz.prog Tryz.f8 false true false false) := by
  refine returnsInHanded_of_change_and (C := Tryz.checked) (X := fun w _ => laidMetH Tryz.prog listed w) (fun _ _ _ hh h => h.of_heap hh) ownKn started (by kernel_rfl) Tryz.func8
    (ChangeSpec.witness_shaped (enc := enc) (C := Tryz.checked) (os := os) (X := fun w _ => laidMetH Tryz.prog listed w) false (World.laidAll Tryz.prog os listed) #[.agg #[.slice none 0 0, .slice none 0 0, .int .i64 0], .agg #[.slice none 0 0, .int .u8 0, .int .u32 0, .int .u32 0]] 8 (World.laidAll_os _ _ _)
      (World.shaped_of_ZipB (by kernel_rfl) (by kernel_rfl)) (by kernel_rfl) (by kernel_rfl) (by kernel_rfl)
      (by rw [MakeChecks.laidMetH_plain _ _ _ (by kernel_rfl)]; exact laidMet_laidAll _ (by kernel_rfl) (by kernel_rfl))) ?_
  intro W base args ds gs before hval hW _ _ hL _
  refine law_contract (fn := Tryz.f8) (ts := [25, 70]) (tb := 4) (n := 8) (by kernel_rfl) (by kernel_rfl) (by kernel_rfl) laid okKept rfl ?_ ?_ (gok hL) hval hW
  · intro H ds h
    match ds, h with
    | [d0, d1], _ => rfl
  · rintro qs ⟨v0, r0, rfl, h0, ⟨v1, r1, rfl, h1, rfl⟩⟩
    obtain ⟨s0, rfl⟩ := shop_of h0
    obtain ⟨l1, k1, w1, g1, rfl, hk1, hw1, hg1⟩ := kept_of h1
    exact lHourKept s0 l1 k1 w1 g1 hk1 hw1 hg1
end Abs
open Abs
theorem kept_row : Rows.HourKeptSaid :=
  OpenClaim.holds_of_wide 8 Tryz.f8 rfl rfl rfl rfl rfl rfl rfl ⟨rfl, rfl, rfl, rfl, rfl⟩ rfl rfl rfl rfl rfl (by kernel_rfl) Tryz.func8 (by kernel_rfl)
    (of_decide_eq_true (by kernel_rfl)) (by unfold Func.isWrapper; first | (rw [if_pos (by decide +kernel)]; kernel_rfl) | (rw [if_neg (by decide +kernel)]; exact ⟨rfl, rfl⟩))
    (fun os started H enc _ => liftedKept os started H enc)
theorem kept_holds : Rows.HourKeptCardSaid :=
  Claim7.holds_tied_plain_at .later [] [.data, .data, .data, .data, .sentinel, .sentinel, .pinned] true (true, "7cd504190454c775656696f643f322fac7ca65a9cc976f73dda986f79b1226ba") true
    kept_row (fun _ h => by cases h) (by kernel_rfl) (fun _ h => by cases h) hourKept_row_tie rfl ⟨rfl, rfl⟩ (by kernel_rfl) rfl
    (fun f fn hf hfn => by
      obtain rfl : f = 8 := Option.some.inj ((show Tryz.prog.funcNamed "stearin/stearinlaw09.HourKept" = some 8 by kernel_rfl).symm.trans hf) |>.symm
      obtain rfl : fn = Tryz.f8 := (Option.some.inj (Tryz.func8.symm.trans hfn)).symm
      exact ⟨by kernel_rfl, fun j t ht => by
        have hp : Tryz.f8.params = #[25, 70] := by kernel_rfl
        rw [hp] at ht
        have hm : t ∈ ([25, 70] : List TypeId) := by simpa using Array.mem_of_getElem? ht
        have hall : (([25, 70] : List TypeId).all fun u => !Tryz.prog.wantsStandIn u) = true := by kernel_rfl
        exact (show Tryz.prog.wantsStandIn t = false by simpa using List.all_eq_true.1 hall t hm)⟩)
    (by kernel_rfl)
#print axioms kept_holds
end Go.Proofs.YtdellinghbppgaaGreatDoor
