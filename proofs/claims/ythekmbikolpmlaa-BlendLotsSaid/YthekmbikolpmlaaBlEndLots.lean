/-
  THE LAW BlendLots: for any lots of its waxes what Made returns is in the ranges of Value, and both ends are reached. No conditions.
-/
import Derived.Test.YthekmbikolpmlaaBlEnd0
import Derived.Test.YthekmbikolpmlaaBdLaw3
import Derived.WalkKit
import Derived.ProofKit
namespace Go.Proofs.Ythekmbikolpmlaa
open Go.ChangeShapes Go.WideShapes Go.ChangeAt Go.RowKit
namespace Abs
set_option maxRecDepth 100000
theorem okLots : ∀ t, t ∈ ([22, 58, 58] : List TypeId) → okT Try.prog 8 t = true ∧ Try.prog.readableRec t = true ∧ t < Try.prog.types.size := by
  intro t ht
  simp only [List.mem_cons, List.not_mem_nil, or_false] at ht
  rcases ht with rfl | rfl | rfl
  · exact okk22
  · exact okk58
  · exact okk58
theorem liftedLots (os : Os) (started : os.Started) (H : Type) (enc : TypeId × Value → H) :
    ReturnsInHanded {} Try.checked os 7 .any (Rows.blendLotsSpec.pre6 enc Try.prog Try.f7 Rows.blendLotsRow.domain false) (Rows.blendLotsSpec.post enc Try.prog Try.f7 false true false false) := by
  refine returnsInHanded_of_change (C := Try.checked) ownKn started (by kernel_rfl) Try.func7
    (ChangeSpec.witness6 (enc := enc) (C := Try.checked) false ⟨#[], #[.slice none 0 0, .slice none 0 0, .slice none 0 0], []⟩ 8 (by kernel_rfl) (by kernel_rfl) (by kernel_rfl) (by kernel_rfl)) ?_
  intro W base args ds gs before hval hW _ _
  refine law_contract (fn := Try.f7) (ts := [22, 58, 58]) (tb := 4) (n := 8) (by kernel_rfl) (by kernel_rfl) (by kernel_rfl) laid okLots rfl ?_ ?_ hval hW
  · intro H ds h
    match ds, h with
    | [d0, d1, d2], _ => rfl
  · rintro qs ⟨v0, r0, rfl, h0, ⟨v1, r1, rfl, h1, ⟨v2, r2, rfl, h2, rfl⟩⟩⟩
    obtain ⟨l0, rfl⟩ := waxes_of h0
    obtain ⟨x1, rfl, hx1⟩ := u16s_of h1
    obtain ⟨x2, rfl, hx2⟩ := u16s_of h2
    exact lBlendLots l0 x1 x2 hx1 hx2
end Abs
open Abs
theorem lots_holds : Rows.BlendLotsSaid :=
  OpenClaim.holds_of_wide 7 Try.f7 rfl rfl rfl rfl rfl rfl rfl ⟨rfl, rfl, rfl, rfl, rfl⟩ rfl rfl rfl rfl rfl (by kernel_rfl) Try.func7 (by kernel_rfl)
    (of_decide_eq_true (by kernel_rfl)) (by unfold Func.isWrapper; first | (rw [if_pos (by decide +kernel)]; kernel_rfl) | (rw [if_neg (by decide +kernel)]; exact ⟨rfl, rfl⟩))
    (fun os started H enc _ => liftedLots os started H enc)
#print axioms lots_holds
end Go.Proofs.Ythekmbikolpmlaa
