/-
  LAWS: values that are called.
-/
import Derived.Test.YthekmbikolpmlaaAbsSim
import Derived.RangeFuncRecord
import Derived.RangeFuncIn
namespace Go.Proofs.Ythekmbikolpmlaa
namespace Abs
variable {P : Program} {M0 : Nat → Prop}

/-- a value that is called -/
theorem callee_ok {S : Mem} {f : AV} {vf : Value} {args : List AV} {C : Array Value} {g : FuncId} {l : List AV} (hf : Rep M0 S vf f) (ha : RepL (Rep M0 S) C args) (h : aInvoke f args = .call g l) :
    ∃ (fv : Fn) (cap dargs cargs : Array Value), (∀ w, (Deferred.ofValue vf C).run P w = .ok { target := .fn fv cap, args := dargs } w) ∧
      (∀ w, (invoke (.fn fv cap) dargs).run P w = (callFunc g cargs).run P w) ∧ RepL (Rep M0 S) cargs l := by
  unfold aInvoke at h
  split at h
  · rename_i g' first cap
    cases h
    have h1 : RepP (Avoid M0 S.m) S.w vf (.func (.func g) first cap) := hf
    cases h1 with
    | @func _ F K _ _ hf hc h1 h2 =>
      exact ⟨.func g, K, F ++ C, F ++ C ++ K, fun w => by simp [Deferred.ofValue], fun w => by simp [invoke], repL_append (repL_append (repL_of_P hf h1) ha) (repL_of_P hc h2)⟩
  · rename_i g' first cap
    cases h
    obtain ⟨F, K, rfl, h1, h2⟩ := hf
    exact ⟨.func g, K, F ++ C, F ++ C ++ K, fun w => by simp [Deferred.ofValue], fun w => by simp [invoke], repL_append (repL_append (h1.imp fun v c _ hr => rep_of_0 hr) ha) (h2.imp fun v c _ hr => rep_of_0 hr)⟩
  · cases h
  · cases h

end Abs
end Go.Proofs.Ythekmbikolpmlaa
