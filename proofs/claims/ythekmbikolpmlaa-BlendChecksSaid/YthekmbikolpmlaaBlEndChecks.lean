/-
  THE LAW BlendChecks: Check and Raise return what the document says, for any waxes and numbers. No conditions.
-/
import Derived.Test.YthekmbikolpmlaaBlEnd0
import Derived.Test.YthekmbikolpmlaaBdLaw1
import Derived.WalkKit
import Derived.ProofKit
namespace Go.Proofs.Ythekmbikolpmlaa
open Go.ChangeShapes Go.WideShapes Go.ChangeAt Go.RowKit
namespace Abs
set_option maxRecDepth 100000
theorem okChecks : ∀ t, t ∈ ([22, 23] : List TypeId) → okT Try.prog 8 t = true ∧ Try.prog.readableRec t = true ∧ t < Try.prog.types.size := by
  intro t ht
  simp only [List.mem_cons, List.not_mem_nil, or_false] at ht
  rcases ht with rfl | rfl
  · exact okk22
  · exact okk23
theorem liftedChecks (os : Os) (started : os.Started) (H : Type) (enc : TypeId × Value → H) :
    ReturnsInHanded {} Try.checked os 3 .any (Rows.blendChecksSpec.pre6 enc Try.prog Try.f3 Rows.blendChecksRow.domain false) (Rows.blendChecksSpec.post enc Try.prog Try.f3 false true false false) := by
  refine returnsInHanded_of_change (C := Try.checked) ownKn started (by kernel_rfl) Try.func3
    (ChangeSpec.witness6 (enc := enc) (C := Try.checked) false ⟨#[], #[.slice none 0 0, .agg #[.int .i64 0, .int .i64 0]], []⟩ 8 (by kernel_rfl) (by kernel_rfl) (by kernel_rfl) (by kernel_rfl)) ?_
  intro W base args ds gs before hval hW _ _
  refine law_contract (fn := Try.f3) (ts := [22, 23]) (tb := 4) (n := 8) (by kernel_rfl) (by kernel_rfl) (by kernel_rfl) laid okChecks rfl ?_ ?_ hval hW
  · intro H ds h
    match ds, h with
    | [d0, d1], _ => rfl
  · rintro qs ⟨v0, r0, rfl, h0, ⟨v1, r1, rfl, h1, rfl⟩⟩
    obtain ⟨l0, rfl⟩ := waxes_of h0
    obtain ⟨a1, b1, rfl⟩ := two_of h1
    exact lBlendChecks l0 a1 b1
end Abs
open Abs
theorem checks_holds : Rows.BlendChecksSaid :=
  OpenClaim.holds_of_wide 3 Try.f3 rfl rfl rfl rfl rfl rfl rfl ⟨rfl, rfl, rfl, rfl, rfl⟩ rfl rfl rfl rfl rfl (by kernel_rfl) Try.func3 (by kernel_rfl)
    (of_decide_eq_true (by kernel_rfl)) (by unfold Func.isWrapper; first | (rw [if_pos (by decide +kernel)]; kernel_rfl) | (rw [if_neg (by decide +kernel)]; exact ⟨rfl, rfl⟩))
    (fun os started H enc _ => liftedChecks os started H enc)
#print axioms checks_holds
end Go.Proofs.Ythekmbikolpmlaa
