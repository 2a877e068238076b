/-
  THE LAW BlendTurned: in another order of the waxes the least price is the same. No conditions.
-/
import Derived.Test.YthekmbikolpmlaaBlEnd0
import Derived.Test.YthekmbikolpmlaaBdLaw7
import Derived.WalkKit
import Derived.ProofKit
namespace Go.Proofs.Ythekmbikolpmlaa
open Go.ChangeShapes Go.WideShapes Go.ChangeAt Go.RowKit
namespace Abs
set_option maxRecDepth 100000
theorem okTurned : ∀ t, t ∈ ([22, 46, 5] : List TypeId) → okT Try.prog 8 t = true ∧ Try.prog.readableRec t = true ∧ t < Try.prog.types.size := by
  intro t ht
  simp only [List.mem_cons, List.not_mem_nil, or_false] at ht
  rcases ht with rfl | rfl | rfl
  · exact okk22
  · exact okk46
  · exact okk5
theorem liftedTurned (os : Os) (started : os.Started) (H : Type) (enc : TypeId × Value → H) :
    ReturnsInHanded {} Try.checked os 14 .any (Rows.blendTurnedSpec.pre6 enc Try.prog Try.f14 Rows.blendTurnedRow.domain false) (Rows.blendTurnedSpec.post enc Try.prog Try.f14 false true false false) := by
  refine returnsInHanded_of_change (C := Try.checked) ownKn started (by kernel_rfl) Try.func14
    (ChangeSpec.witness6 (enc := enc) (C := Try.checked) false ⟨#[], #[.slice none 0 0, .agg #[.slice none 0 0, .int .i64 0, .int .i64 0, .int .i64 0, .int .i64 0], .int .u8 0], []⟩ 8 (by kernel_rfl) (by kernel_rfl) (by kernel_rfl) (by kernel_rfl)) ?_
  intro W base args ds gs before hval hW _ _
  refine law_contract (fn := Try.f14) (ts := [22, 46, 5]) (tb := 4) (n := 8) (by kernel_rfl) (by kernel_rfl) (by kernel_rfl) laid okTurned rfl ?_ ?_ hval hW
  · intro H ds h
    match ds, h with
    | [d0, d1, d2], _ => rfl
  · rintro qs ⟨v0, r0, rfl, h0, ⟨v1, r1, rfl, h1, ⟨v2, r2, rfl, h2, rfl⟩⟩⟩
    obtain ⟨l0, rfl⟩ := waxes_of h0
    obtain ⟨w1, rfl⟩ := wish_ofv h1
    obtain ⟨k2, rfl, hk2⟩ := byte_of h2
    exact lBlendTurned l0 w1 k2 hk2
end Abs
open Abs
theorem turned_holds : Rows.BlendTurnedSaid :=
  OpenClaim.holds_of_wide 14 Try.f14 rfl rfl rfl rfl rfl rfl rfl ⟨rfl, rfl, rfl, rfl, rfl⟩ rfl rfl rfl rfl rfl (by kernel_rfl) Try.func14 (by kernel_rfl)
    (of_decide_eq_true (by kernel_rfl)) (by unfold Func.isWrapper; first | (rw [if_pos (by decide +kernel)]; kernel_rfl) | (rw [if_neg (by decide +kernel)]; exact ⟨rfl, rfl⟩))
    (fun os started H enc _ => liftedTurned os started H enc)
#print axioms turned_holds
end Go.Proofs.Ythekmbikolpmlaa
