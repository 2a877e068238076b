/-
  THE LAW WickTurned: in another order of the wicks the same ones suit, for any shop and candle. No conditions.
-/
import Derived.Test.YtdgmmijimclooaaWkEnd0
import Derived.Test.YtdgmmijimclooaaWkTurn
import Derived.WalkKit
import Derived.ProofKit
namespace Go.Proofs.Ytdgmmijimclooaa
open Go.ChangeShapes Go.WideShapes Go.ChangeAt Go.RowKit
namespace Abs
set_option maxRecDepth 100000
theorem okTurned : ∀ t, t ∈ ([27, 34, 5] : List TypeId) → okT Try.prog 8 t = true ∧ Try.prog.readableRec t = true ∧ t < Try.prog.types.size := by
  intro t ht
  simp only [List.mem_cons, List.not_mem_nil, or_false] at ht
  rcases ht with rfl | rfl | rfl
  · exact okk27
  · exact okk34
  · exact okk5
theorem liftedTurned (os : Os) (started : os.Started) (H : Type) (enc : TypeId × Value → H) :
    ReturnsInHanded {} Try.checked os 13 .any (Rows.wickTurnedSpec.pre6 enc Try.prog Try.f13 Rows.wickTurnedRow.domain false) (Rows.wickTurnedSpec.post enc Try.prog Try.f13 false true false false) := by
  refine returnsInHanded_of_change (C := Try.checked) ownKn started (by kernel_rfl) Try.func13
    (ChangeSpec.witness6 (enc := enc) (C := Try.checked) false ⟨#[], #[.agg #[.slice none 0 0, .slice none 0 0, .int .i64 0, .int .i64 0, .int .i64 0, .int .i64 0], .agg #[.int .i64 0, .int .i64 0, .int .i64 0, .int .i64 0, .int .i64 0], .int .u8 0], []⟩ 8 (by kernel_rfl) (by kernel_rfl) (by kernel_rfl) (by kernel_rfl)) ?_
  intro W base args ds gs before hval hW _ _
  refine law_contract (fn := Try.f13) (ts := [27, 34, 5]) (tb := 4) (n := 8) (by kernel_rfl) (by kernel_rfl) (by kernel_rfl) laid okTurned rfl ?_ ?_ hval hW
  · intro H ds h
    match ds, h with
    | [d0, d1, d2], _ => rfl
  · rintro qs ⟨v0, r0, rfl, h0, ⟨v1, r1, rfl, h1, ⟨v2, r2, rfl, h2, rfl⟩⟩⟩
    obtain ⟨s0, rfl⟩ := shop_of h0
    obtain ⟨c1, rfl⟩ := candle_of h1
    obtain ⟨k2, rfl, hk2⟩ := byte_of h2
    exact lTurned s0 c1 k2 hk2
end Abs
open Abs
theorem turned_holds : Rows.WickTurnedSaid :=
  OpenClaim.holds_of_wide 13 Try.f13 rfl rfl rfl rfl rfl rfl rfl ⟨rfl, rfl, rfl, rfl, rfl⟩ rfl rfl rfl rfl rfl (by kernel_rfl) Try.func13 (by kernel_rfl)
    (of_decide_eq_true (by kernel_rfl)) (by unfold Func.isWrapper; first | (rw [if_pos (by decide +kernel)]; kernel_rfl) | (rw [if_neg (by decide +kernel)]; exact ⟨rfl, rfl⟩))
    (fun os started H enc _ => liftedTurned os started H enc)
#print axioms turned_holds
end Go.Proofs.Ytdgmmijimclooaa
