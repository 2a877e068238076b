/-
  WHAT ALL LAWS' STATEMENTS ASK OF THE PROGRAM: closed facts. No conditions.
-/
import Derived.Test.YtdgmmijimclooaaRows
import Derived.Test.YtdgmmijimclooaaWkInv
namespace Go.Proofs.Ytdgmmijimclooaa
open Go.ChangeShapes Go.WideShapes Go.ChangeAt Go.RowKit
namespace Abs
set_option maxRecDepth 100000
theorem ownKn : ownKnob Try.prog.godebug = none := by kernel_rfl
theorem laid : laidOutB Try.prog = true := by kernel_rfl
def TOkk (t : TypeId) : Prop := okT Try.prog 8 t = true ∧ Try.prog.readableRec t = true ∧ t < Try.prog.types.size
theorem okk3 : TOkk 3 := ⟨by kernel_rfl, by kernel_rfl, of_decide_eq_true (by kernel_rfl)⟩
theorem okk5 : TOkk 5 := ⟨by kernel_rfl, by kernel_rfl, of_decide_eq_true (by kernel_rfl)⟩
theorem okk27 : TOkk 27 := ⟨by kernel_rfl, by kernel_rfl, of_decide_eq_true (by kernel_rfl)⟩
theorem okk34 : TOkk 34 := ⟨by kernel_rfl, by kernel_rfl, of_decide_eq_true (by kernel_rfl)⟩
theorem okk38 : TOkk 38 := ⟨by kernel_rfl, by kernel_rfl, of_decide_eq_true (by kernel_rfl)⟩
theorem okk65 : TOkk 65 := ⟨by kernel_rfl, by kernel_rfl, of_decide_eq_true (by kernel_rfl)⟩
theorem okk76 : TOkk 76 := ⟨by kernel_rfl, by kernel_rfl, of_decide_eq_true (by kernel_rfl)⟩
end Abs
end Go.Proofs.Ytdgmmijimclooaa
