/-
  WHAT ALL LAWS' STATEMENTS ASK OF THE PROGRAM: closed facts; what the listed variables hold. No conditions beyond the theorems' own.
-/
import Derived.Test.YtdellinghbppgaaGreatDoorTie
import Derived.Test.YtdellinghbppgaaGreatDoorHrInv
import Derived.Lib.LaidTab
import Derived.LaidLaws
import Derived.LaidSub
import Derived.LaidMore
import Derived.Lay
import Derived.MakeChecks
namespace Go.Proofs.YtdellinghbppgaaGreatDoor
open Go.ChangeShapes Go.WideShapes Go.ChangeAt Go.RowKit
namespace Abs
set_option maxRecDepth 100000
theorem ownKn : ownKnob Tryz.prog.godebug = none := by kernel_rfl
theorem laid : laidOutB Tryz.prog = true := by kernel_rfl
def TOkk (t : TypeId) : Prop := okT Tryz.prog 8 t = true ∧ Tryz.prog.readableRec t = true ∧ t < Tryz.prog.types.size
theorem okk5 : TOkk 5 := ⟨by kernel_rfl, by kernel_rfl, of_decide_eq_true (by kernel_rfl)⟩
theorem okk9 : TOkk 9 := ⟨by kernel_rfl, by kernel_rfl, of_decide_eq_true (by kernel_rfl)⟩
theorem okk25 : TOkk 25 := ⟨by kernel_rfl, by kernel_rfl, of_decide_eq_true (by kernel_rfl)⟩
theorem okk33 : TOkk 33 := ⟨by kernel_rfl, by kernel_rfl, of_decide_eq_true (by kernel_rfl)⟩
theorem okk50 : TOkk 50 := ⟨by kernel_rfl, by kernel_rfl, of_decide_eq_true (by kernel_rfl)⟩
theorem okk59 : TOkk 59 := ⟨by kernel_rfl, by kernel_rfl, of_decide_eq_true (by kernel_rfl)⟩
theorem okk70 : TOkk 70 := ⟨by kernel_rfl, by kernel_rfl, of_decide_eq_true (by kernel_rfl)⟩
theorem okk80 : TOkk 80 := ⟨by kernel_rfl, by kernel_rfl, of_decide_eq_true (by kernel_rfl)⟩
theorem okk82 : TOkk 82 := ⟨by kernel_rfl, by kernel_rfl, of_decide_eq_true (by kernel_rfl)⟩
theorem okk84 : TOkk 84 := ⟨by kernel_rfl, by kernel_rfl, of_decide_eq_true (by kernel_rfl)⟩
/-- the listed variables -/
def listed : List (String × DataW Unit) := Rows.hourChecksRow.laid
theorem plain : ∀ W, laidMetH Tryz.prog listed W → laidMet Tryz.prog listed W := fun W h => by
  rw [MakeChecks.laidMetH_plain _ _ _ (by kernel_rfl)] at h
  exact h
theorem lone1 : listed.filter (fun x => x.1 == "internal/strconv.uint64pow10") = [("internal/strconv.uint64pow10", Lib.tabData .u64 Lib.pow10Tab)] := by rfl
theorem lone2 : listed.filter (fun x => x.1 == "strconv.ErrSyntax") = [("strconv.ErrSyntax", Rows.laid_strconv_ErrSyntax)] := by rfl
theorem lone3 : listed.filter (fun x => x.1 == "strconv.ErrRange") = [("strconv.ErrRange", Rows.laid_strconv_ErrRange)] := by rfl
theorem errT : ∃ ms, Tryz.prog.underlying 143 = some (.interface ms) := ⟨_, rfl⟩
theorem sentinelAt {W : World} {name nm : String} {d : DataW Unit} {g : Nat} (hg : Tryz.prog.globalNamed name = some g) (ht : (Tryz.prog.globals[g]?).map (·.type) = some 143)
    (h : laidMet Tryz.prog [(name, .iface nm d)] W) : ∃ tp p, W.var? Tryz.prog name = some #[.iface tp p] := by
  obtain ⟨ps, ⟨g', t', cs, fuel, p, q, hg', ht', hvar, hd, _, _⟩, _⟩ := h
  obtain rfl := Option.some.inj (hg.symm.trans hg')
  obtain rfl := Option.some.inj (ht.symm.trans ht')
  obtain ⟨ms, hms⟩ := errT
  obtain ⟨f1, u, v, hcs, _, _⟩ := iface_of_trod hms hd
  refine ⟨u, v, ?_⟩
  rw [hvar]
  congr 1
  apply Array.ext'
  simpa using hcs
theorem gok {W : World} (h0 : laidMetH Tryz.prog listed W) : GOk Tryz.prog W := by
  have h := plain W h0
  refine ⟨fun b hb => ?_, fun b hb => ?_, fun b hb => ?_⟩
  · have := h.filter (fun x => x.1 == "internal/strconv.uint64pow10")
    rw [lone1] at this
    exact Lib.tabIs_of_head (g := 5) (t := 195) (e := 177) (n := 20) (by kernel_rfl) (by kernel_rfl) (by kernel_rfl) (by kernel_rfl) (by kernel_rfl) (by kernel_rfl) this
  · have := h.filter (fun x => x.1 == "strconv.ErrSyntax")
    rw [lone2] at this
    exact sentinelAt (g := 1) (by kernel_rfl) (by kernel_rfl) this
  · have := h.filter (fun x => x.1 == "strconv.ErrRange")
    rw [lone3] at this
    exact sentinelAt (g := 2) (by kernel_rfl) (by kernel_rfl) this
end Abs
end Go.Proofs.YtdellinghbppgaaGreatDoor
