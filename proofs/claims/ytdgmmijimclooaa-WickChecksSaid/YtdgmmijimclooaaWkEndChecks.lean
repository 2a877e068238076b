/-
  THE LAW WickChecks: Check returns what the document says, for any shop. No conditions.
-/
import Derived.Test.YtdgmmijimclooaaWkEnd0
import Derived.Test.YtdgmmijimclooaaWkLaw1
import Derived.WalkKit
import Derived.ProofKit
namespace Go.Proofs.Ytdgmmijimclooaa
open Go.ChangeShapes Go.WideShapes Go.ChangeAt Go.RowKit
namespace Abs
set_option maxRecDepth 100000
theorem okChecks : ∀ t, t ∈ ([27] : List TypeId) → okT Try.prog 8 t = true ∧ Try.prog.readableRec t = true ∧ t < Try.prog.types.size := by
  intro t ht
  simp only [List.mem_cons, List.not_mem_nil, or_false] at ht
  subst ht
  exact okk27
theorem liftedChecks (os : Os) (started : os.Started) (H : Type) (enc : TypeId × Value → H) :
    ReturnsInHanded {} Try.checked os 3 .any (Rows.wickChecksSpec.pre6 enc Try.prog Try.f3 Rows.wickChecksRow.domain false) (Rows.wickChecksSpec.post enc Try.prog Try.f3 false true false false) := by
  refine returnsInHanded_of_change (C := Try.checked) ownKn started (by kernel_rfl) Try.func3
    (ChangeSpec.witness6 (enc := enc) (C := Try.checked) false ⟨#[], #[.agg #[.slice none 0 0, .slice none 0 0, .int .i64 0, .int .i64 0, .int .i64 0, .int .i64 0]], []⟩ 8 (by kernel_rfl) (by kernel_rfl) (by kernel_rfl) (by kernel_rfl)) ?_
  intro W base args ds gs before hval hW _ _
  refine law_contract (fn := Try.f3) (ts := [27]) (tb := 4) (n := 8) (by kernel_rfl) (by kernel_rfl) (by kernel_rfl) laid okChecks rfl ?_ ?_ hval hW
  · intro H ds h
    match ds, h with
    | [d0], _ => rfl
  · rintro qs ⟨v0, r0, rfl, h0, rfl⟩
    obtain ⟨s0, rfl⟩ := shop_of h0
    exact lChecks s0
end Abs
open Abs
theorem checks_holds : Rows.WickChecksSaid :=
  OpenClaim.holds_of_wide 3 Try.f3 rfl rfl rfl rfl rfl rfl rfl ⟨rfl, rfl, rfl, rfl, rfl⟩ rfl rfl rfl rfl rfl (by kernel_rfl) Try.func3 (by kernel_rfl)
    (of_decide_eq_true (by kernel_rfl)) (by unfold Func.isWrapper; first | (rw [if_pos (by decide +kernel)]; kernel_rfl) | (rw [if_neg (by decide +kernel)]; exact ⟨rfl, rfl⟩))
    (fun os started H enc _ => liftedChecks os started H enc)
#print axioms checks_holds
end Go.Proofs.Ytdgmmijimclooaa
