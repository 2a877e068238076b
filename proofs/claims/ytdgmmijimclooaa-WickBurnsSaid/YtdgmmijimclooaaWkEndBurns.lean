/-
  THE LAW WickBurns: At, Burn and Minutes return what the document says, for any shop, wick, candle, truth and grams. No conditions.
-/
import Derived.Test.YtdgmmijimclooaaWkEnd0
import Derived.Test.YtdgmmijimclooaaWkLaw1
import Derived.WalkKit
import Derived.ProofKit
namespace Go.Proofs.Ytdgmmijimclooaa
open Go.ChangeShapes Go.WideShapes Go.ChangeAt Go.RowKit
namespace Abs
set_option maxRecDepth 100000
theorem okBurns : ∀ t, t ∈ ([27, 38] : List TypeId) → okT Try.prog 8 t = true ∧ Try.prog.readableRec t = true ∧ t < Try.prog.types.size := by
  intro t ht
  simp only [List.mem_cons, List.not_mem_nil, or_false] at ht
  rcases ht with rfl | rfl
  · exact okk27
  · exact okk38
theorem liftedBurns (os : Os) (started : os.Started) (H : Type) (enc : TypeId × Value → H) :
    ReturnsInHanded {} Try.checked os 4 .any (Rows.wickBurnsSpec.pre6 enc Try.prog Try.f4 Rows.wickBurnsRow.domain false) (Rows.wickBurnsSpec.post enc Try.prog Try.f4 false true false false) := by
  refine returnsInHanded_of_change (C := Try.checked) ownKn started (by kernel_rfl) Try.func4
    (ChangeSpec.witness6 (enc := enc) (C := Try.checked) false ⟨#[], #[.agg #[.slice none 0 0, .slice none 0 0, .int .i64 0, .int .i64 0, .int .i64 0, .int .i64 0], .agg #[.int .i64 0, .int .i64 0, .int .i64 0, .int .i64 0, .int .i64 0, .int .i64 0, .int .i64 0, .int .i64 0, .int .i64 0, .int .i64 0, .int .i64 0, .int .i64 0, .int .i64 0]], []⟩ 8 (by kernel_rfl) (by kernel_rfl) (by kernel_rfl) (by kernel_rfl)) ?_
  intro W base args ds gs before hval hW _ _
  refine law_contract (fn := Try.f4) (ts := [27, 38]) (tb := 4) (n := 8) (by kernel_rfl) (by kernel_rfl) (by kernel_rfl) laid okBurns rfl ?_ ?_ hval hW
  · intro H ds h
    match ds, h with
    | [d0, d1], _ => rfl
  · rintro qs ⟨v0, r0, rfl, h0, ⟨v1, r1, rfl, h1, rfl⟩⟩
    obtain ⟨s0, rfl⟩ := shop_of h0
    obtain ⟨y1, rfl⟩ := lit_of h1
    exact lBurns s0 y1
end Abs
open Abs
theorem burns_holds : Rows.WickBurnsSaid :=
  OpenClaim.holds_of_wide 4 Try.f4 rfl rfl rfl rfl rfl rfl rfl ⟨rfl, rfl, rfl, rfl, rfl⟩ rfl rfl rfl rfl rfl (by kernel_rfl) Try.func4 (by kernel_rfl)
    (of_decide_eq_true (by kernel_rfl)) (by unfold Func.isWrapper; first | (rw [if_pos (by decide +kernel)]; kernel_rfl) | (rw [if_neg (by decide +kernel)]; exact ⟨rfl, rfl⟩))
    (fun os started H enc _ => liftedBurns os started H enc)
#print axioms burns_holds
end Go.Proofs.Ytdgmmijimclooaa
