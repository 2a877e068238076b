/-
  THE LAW BlendKnown: the examples of the document. No conditions.
-/
import Derived.Test.YthekmbikolpmlaaBlEnd0
import Derived.Test.YthekmbikolpmlaaBdLaw2
import Derived.WalkKit
import Derived.ProofKit
namespace Go.Proofs.Ythekmbikolpmlaa
open Go.ChangeShapes Go.WideShapes Go.ChangeAt Go.RowKit
namespace Abs
set_option maxRecDepth 100000
theorem okKnown : ∀ t, t ∈ ([] : List TypeId) → okT Try.prog 8 t = true ∧ Try.prog.readableRec t = true ∧ t < Try.prog.types.size := by
  intro t ht
  cases ht
theorem liftedKnown (os : Os) (started : os.Started) (H : Type) (enc : TypeId × Value → H) :
    ReturnsInHanded {} Try.checked os 6 .any (Rows.blendKnownSpec.pre6 enc Try.prog Try.f6 Rows.blendKnownRow.domain false) (Rows.blendKnownSpec.post enc Try.prog Try.f6 false true false false) := by
  refine returnsInHanded_of_change (C := Try.checked) ownKn started (by kernel_rfl) Try.func6
    (ChangeSpec.witness6 (enc := enc) (C := Try.checked) false ⟨#[], #[], []⟩ 8 (by kernel_rfl) (by kernel_rfl) (by kernel_rfl) (by kernel_rfl)) ?_
  intro W base args ds gs before hval hW _ _
  refine law_contract (fn := Try.f6) (ts := []) (tb := 4) (n := 8) (by kernel_rfl) (by kernel_rfl) (by kernel_rfl) laid okKnown rfl ?_ ?_ hval hW
  · intro H ds h
    match ds, h with
    | [], _ => rfl
  · rintro qs rfl
    exact lBlendKnown
end Abs
open Abs
theorem known_holds : Rows.BlendKnownSaid :=
  OpenClaim.holds_of_wide 6 Try.f6 rfl rfl rfl rfl rfl rfl rfl ⟨rfl, rfl, rfl, rfl, rfl⟩ rfl rfl rfl rfl rfl (by kernel_rfl) Try.func6 (by kernel_rfl)
    (of_decide_eq_true (by kernel_rfl)) (by unfold Func.isWrapper; first | (rw [if_pos (by decide +kernel)]; kernel_rfl) | (rw [if_neg (by decide +kernel)]; exact ⟨rfl, rfl⟩))
    (fun os started H enc _ => liftedKnown os started H enc)
#print axioms known_holds
end Go.Proofs.Ythekmbikolpmlaa
