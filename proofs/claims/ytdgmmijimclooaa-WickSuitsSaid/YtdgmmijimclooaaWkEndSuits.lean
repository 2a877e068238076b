/-
  THE LAW WickSuits: Faults, Suits, Thinnest and Sizes return what the document says, for any shop, wick and candle. No conditions.
-/
import Derived.Test.YtdgmmijimclooaaWkEnd0
import Derived.Test.YtdgmmijimclooaaWkLaw1
import Derived.WalkKit
import Derived.ProofKit
namespace Go.Proofs.Ytdgmmijimclooaa
open Go.ChangeShapes Go.WideShapes Go.ChangeAt Go.RowKit
namespace Abs
set_option maxRecDepth 100000
theorem okSuits : ∀ t, t ∈ ([27, 3, 34] : List TypeId) → okT Try.prog 8 t = true ∧ Try.prog.readableRec t = true ∧ t < Try.prog.types.size := by
  intro t ht
  simp only [List.mem_cons, List.not_mem_nil, or_false] at ht
  rcases ht with rfl | rfl | rfl
  · exact okk27
  · exact okk3
  · exact okk34
theorem liftedSuits (os : Os) (started : os.Started) (H : Type) (enc : TypeId × Value → H) :
    ReturnsInHanded {} Try.checked os 5 .any (Rows.wickSuitsSpec.pre6 enc Try.prog Try.f5 Rows.wickSuitsRow.domain false) (Rows.wickSuitsSpec.post enc Try.prog Try.f5 false true false false) := by
  refine returnsInHanded_of_change (C := Try.checked) ownKn started (by kernel_rfl) Try.func5
    (ChangeSpec.witness6 (enc := enc) (C := Try.checked) false ⟨#[], #[.agg #[.slice none 0 0, .slice none 0 0, .int .i64 0, .int .i64 0, .int .i64 0, .int .i64 0], .int .i64 0, .agg #[.int .i64 0, .int .i64 0, .int .i64 0, .int .i64 0, .int .i64 0]], []⟩ 8 (by kernel_rfl) (by kernel_rfl) (by kernel_rfl) (by kernel_rfl)) ?_
  intro W base args ds gs before hval hW _ _
  refine law_contract (fn := Try.f5) (ts := [27, 3, 34]) (tb := 4) (n := 8) (by kernel_rfl) (by kernel_rfl) (by kernel_rfl) laid okSuits rfl ?_ ?_ hval hW
  · intro H ds h
    match ds, h with
    | [d0, d1, d2], _ => rfl
  · rintro qs ⟨v0, r0, rfl, h0, ⟨v1, r1, rfl, h1, ⟨v2, r2, rfl, h2, rfl⟩⟩⟩
    obtain ⟨s0, rfl⟩ := shop_of h0
    obtain ⟨k1, rfl⟩ := int_of h1
    obtain ⟨c2, rfl⟩ := candle_of h2
    exact lSuits s0 k1 c2
end Abs
open Abs
theorem suits_holds : Rows.WickSuitsSaid :=
  OpenClaim.holds_of_wide 5 Try.f5 rfl rfl rfl rfl rfl rfl rfl ⟨rfl, rfl, rfl, rfl, rfl⟩ rfl rfl rfl rfl rfl (by kernel_rfl) Try.func5 (by kernel_rfl)
    (of_decide_eq_true (by kernel_rfl)) (by unfold Func.isWrapper; first | (rw [if_pos (by decide +kernel)]; kernel_rfl) | (rw [if_neg (by decide +kernel)]; exact ⟨rfl, rfl⟩))
    (fun os started H enc _ => liftedSuits os started H enc)
#print axioms suits_holds
end Go.Proofs.Ytdgmmijimclooaa
