/-
  THE LAW BlendLess: with narrower lots each recipe still fits; with a wider wish nothing is dearer; with higher prices nothing is cheaper. No conditions.
-/
import Derived.Test.YthekmbikolpmlaaBlEnd0
import Derived.Test.YthekmbikolpmlaaBdLaw6
import Derived.WalkKit
import Derived.ProofKit
namespace Go.Proofs.Ythekmbikolpmlaa
open Go.ChangeShapes Go.WideShapes Go.ChangeAt Go.RowKit
namespace Abs
set_option maxRecDepth 100000
theorem okLess : ∀ t, t ∈ ([22, 46, 58] : List TypeId) → okT Try.prog 8 t = true ∧ Try.prog.readableRec t = true ∧ t < Try.prog.types.size := by
  intro t ht
  simp only [List.mem_cons, List.not_mem_nil, or_false] at ht
  rcases ht with rfl | rfl | rfl
  · exact okk22
  · exact okk46
  · exact okk58
theorem liftedLess (os : Os) (started : os.Started) (H : Type) (enc : TypeId × Value → H) :
    ReturnsInHanded {} Try.checked os 12 .any (Rows.blendLessSpec.pre6 enc Try.prog Try.f12 Rows.blendLessRow.domain false) (Rows.blendLessSpec.post enc Try.prog Try.f12 false true false false) := by
  refine returnsInHanded_of_change (C := Try.checked) ownKn started (by kernel_rfl) Try.func12
    (ChangeSpec.witness6 (enc := enc) (C := Try.checked) false ⟨#[], #[.slice none 0 0, .agg #[.slice none 0 0, .int .i64 0, .int .i64 0, .int .i64 0, .int .i64 0], .slice none 0 0], []⟩ 8 (by kernel_rfl) (by kernel_rfl) (by kernel_rfl) (by kernel_rfl)) ?_
  intro W base args ds gs before hval hW _ _
  refine law_contract (fn := Try.f12) (ts := [22, 46, 58]) (tb := 4) (n := 8) (by kernel_rfl) (by kernel_rfl) (by kernel_rfl) laid okLess rfl ?_ ?_ hval hW
  · intro H ds h
    match ds, h with
    | [d0, d1, d2], _ => rfl
  · rintro qs ⟨v0, r0, rfl, h0, ⟨v1, r1, rfl, h1, ⟨v2, r2, rfl, h2, rfl⟩⟩⟩
    obtain ⟨l0, rfl⟩ := waxes_of h0
    obtain ⟨w1, rfl⟩ := wish_ofv h1
    obtain ⟨x2, rfl, hx2⟩ := u16s_of h2
    exact lBlendLess l0 w1 x2 hx2
end Abs
open Abs
theorem less_holds : Rows.BlendLessSaid :=
  OpenClaim.holds_of_wide 12 Try.f12 rfl rfl rfl rfl rfl rfl rfl ⟨rfl, rfl, rfl, rfl, rfl⟩ rfl rfl rfl rfl rfl (by kernel_rfl) Try.func12 (by kernel_rfl)
    (of_decide_eq_true (by kernel_rfl)) (by unfold Func.isWrapper; first | (rw [if_pos (by decide +kernel)]; kernel_rfl) | (rw [if_neg (by decide +kernel)]; exact ⟨rfl, rfl⟩))
    (fun os started H enc _ => liftedLess os started H enc)
#print axioms less_holds
end Go.Proofs.Ythekmbikolpmlaa
