/-
  CONTRACTS OF Go's LIBRARY, as far as the seat's program reaches it: slices.IndexFunc, slices.ContainsFunc.
-/
import Derived.Test.YtdgmmijimclooaaAbsRead
import Derived.Test.YtdgmmijimclooaaWkTy
import Derived.Test.YtdgmmijimclooaaWkData
namespace Go.Proofs.Ytdgmmijimclooaa
namespace Abs
set_option linter.unusedSimpArgs false
set_option maxRecDepth 4000

/-- a function value, called on these values, gives this one -/
def App (P : Program) (fv : PV) (xs : List PV) (y : PV) : Prop := ∃ (g : FuncId) (first cap : List PV), fv = .func (.func g) first cap ∧ PCall P g (first ++ xs ++ cap) y

/-- the place of the first one, from i on; -1: there is none -/
def idxF {α : Type} (p : α → Bool) : List α → Nat → Int
  | [], _ => -1
  | x :: r, i => if p x = true then (i : Int) else idxF p r (i + 1)
theorem idxF_any {α : Type} (p : α → Bool) : ∀ (l : List α) (i : Nat), decide (0 ≤ idxF p l i) = l.any p
  | [], i => by simp [idxF]
  | x :: r, i => by
    unfold idxF
    rw [List.any_cons]
    cases hx : p x
    · simp only [Bool.false_eq_true, if_false, Bool.false_or]; exact idxF_any p r (i + 1)
    · simp
theorem wrap_add {a b c : Int} (h0 : 0 ≤ c) (h : c ≤ room) (e : a + b = c) : IntKind.i64.wrap (a + b) = c := by rw [e]; exact wrap_small h0 h

theorem list_at {α : Type} {l done r : List α} {x : α} (h : l = done ++ x :: r) : l[done.length]? = some x ∧ ((done.length : Int) < (l.length : Int)) := by
  subst h
  refine ⟨by simp, by simp; omega⟩

theorem cIndexFunc0 {fv : PV} (l : List Int) (p : Int → Bool) (b : Bool) (sz : Nat) (hsz : sz = 1) (hl : l.length < 1000000000) (hf : ∀ x, x ∈ l → App Try.prog fv [intPV x] (.bool (p x))) :
    PCall Try.prog 85 [.slice sz (l.map intPV) b, fv] (.int .i64 (idxF p l 0)) := by
  subst hsz
  refine pcall_of_wp draws (fn := Try.f85) (n := 19) (rs := [.tmp 4]) (by kernel_rfl) rfl rfl rfl ok85 (Nat.le_of_ble_eq_true rfl) ?_
  simp (config := { maxSteps := 400000 }) only [go_sem, ↓reduceIte, reduceCtorEq, Nat.reduceEqDiff, Nat.reduceAdd, Nat.reduceLT, Nat.reduceLeDiff, Nat.reduceSub, Int.reduceToNat, Int.reduceLE, Int.reduceLT, Int.reduceNeg, Int.reduceBEq, Int.reduceBNe, Nat.reduceMul, Int.reduceAdd, Int.reduceMul, Int.reduceSub, Int.reduceEq, Int.reduceNe]
  refine W_loopH [0, 1, 7] (σ := List Int × List Int) (fun s => l = s.1 ++ s.2 ∧ idxF p l 0 = idxF p s.2 s.1.length) (fun s => s.2.length) (fun s => [(8, .p (.int .i64 s.1.length))]) ([], l) ⟨rfl, rfl⟩ ?_ ?_
  · simp (config := { maxSteps := 400000 }) only [go_sem, ↓reduceIte, reduceCtorEq, Nat.reduceEqDiff, Nat.reduceAdd, Nat.reduceLT, Nat.reduceLeDiff, Nat.reduceSub, Int.reduceToNat, Int.reduceLE, Int.reduceLT, Int.reduceNeg, Int.reduceBEq, Int.reduceBNe, Nat.reduceMul, Int.reduceAdd, Int.reduceMul, Int.reduceSub, Int.reduceEq, Int.reduceNe] <;> simp
  · rintro ⟨done, rest⟩ ⟨e1, e2⟩
    dsimp only at e1 e2
    cases rest with
    | nil =>
      have hlt : ¬ ((done.length : Int) < (l.length : Int)) := by rw [e1]; simp
      simp (config := { maxSteps := 400000 }) only [hlt, decide_false, go_sem, ↓reduceIte, reduceCtorEq, Nat.reduceEqDiff, Nat.reduceAdd, Nat.reduceLT, Nat.reduceLeDiff, Nat.reduceSub, Int.reduceToNat, Int.reduceLE, Int.reduceLT, Int.reduceNeg, Int.reduceBEq, Int.reduceBNe, Nat.reduceMul, Int.reduceAdd, Int.reduceMul, Int.reduceSub, Int.reduceEq, Int.reduceNe]
      rw [e2]; rfl
    | cons x r =>
      obtain ⟨hx, hlt⟩ := list_at e1
      have hnx : IntKind.i64.wrap ((done.length : Int) + 1) = (((done ++ [x]).length : Nat) : Int) := wrap_add (by omega) (by simp [room]; omega) (by simp)
      obtain ⟨g, first, cap, rfl, hc⟩ := hf x (by rw [e1]; simp)
      simp (config := { maxSteps := 400000 }) only [hlt, decide_true, hx, intPV, go_sem, ↓reduceIte, reduceCtorEq, Nat.reduceEqDiff, Nat.reduceAdd, Nat.reduceLT, Nat.reduceLeDiff, Nat.reduceSub, Int.reduceToNat, Int.reduceLE, Int.reduceLT, Int.reduceNeg, Int.reduceBEq, Int.reduceBNe, Nat.reduceMul, Int.reduceAdd, Int.reduceMul, Int.reduceSub, Int.reduceEq, Int.reduceNe]
      refine WF_pure hc (by simp [intPV]) ?_
      simp (config := { maxSteps := 400000 }) only [go_sem, ↓reduceIte, reduceCtorEq, Nat.reduceEqDiff, Nat.reduceAdd, Nat.reduceLT, Nat.reduceLeDiff, Nat.reduceSub, Int.reduceToNat, Int.reduceLE, Int.reduceLT, Int.reduceNeg, Int.reduceBEq, Int.reduceBNe, Nat.reduceMul, Int.reduceAdd, Int.reduceMul, Int.reduceSub, Int.reduceEq, Int.reduceNe]
      refine WB_split (fun hb => ?_) (fun hb => ?_)
      · simp (config := { maxSteps := 400000 }) only [go_sem, ↓reduceIte, reduceCtorEq, Nat.reduceEqDiff, Nat.reduceAdd, Nat.reduceLT, Nat.reduceLeDiff, Nat.reduceSub, Int.reduceToNat, Int.reduceLE, Int.reduceLT, Int.reduceNeg, Int.reduceBEq, Int.reduceBNe, Nat.reduceMul, Int.reduceAdd, Int.reduceMul, Int.reduceSub, Int.reduceEq, Int.reduceNe]
        rw [e2]
        simp [idxF, hb]
      · simp (config := { maxSteps := 400000 }) only [go_sem, ↓reduceIte, reduceCtorEq, Nat.reduceEqDiff, Nat.reduceAdd, Nat.reduceLT, Nat.reduceLeDiff, Nat.reduceSub, Int.reduceToNat, Int.reduceLE, Int.reduceLT, Int.reduceNeg, Int.reduceBEq, Int.reduceBNe, Nat.reduceMul, Int.reduceAdd, Int.reduceMul, Int.reduceSub, Int.reduceEq, Int.reduceNe]
        refine WQ_headA (done ++ [x], r) ⟨by simp [e1], by rw [e2]; simp [idxF, hb]⟩ (by simp) ?_
        simp (config := { maxSteps := 400000 }) only [hnx, go_sem, ↓reduceIte, reduceCtorEq, Nat.reduceEqDiff, Nat.reduceAdd, Nat.reduceLT, Nat.reduceLeDiff, Nat.reduceSub, Int.reduceToNat, Int.reduceLE, Int.reduceLT, Int.reduceNeg, Int.reduceBEq, Int.reduceBNe, Nat.reduceMul, Int.reduceAdd, Int.reduceMul, Int.reduceSub, Int.reduceEq, Int.reduceNe]
theorem cContainsFunc0 {fv : PV} (l : List Int) (p : Int → Bool) (b : Bool) (sz : Nat) (hsz : sz = 1) (hl : l.length < 1000000000) (hf : ∀ x, x ∈ l → App Try.prog fv [intPV x] (.bool (p x))) :
    PCall Try.prog 65 [.slice sz (l.map intPV) b, fv] (.bool (l.any p)) := by
  refine pcall_of_wp draws (fn := Try.f65) (n := 9) (rs := [.tmp 4]) (by kernel_rfl) rfl rfl rfl ok65 (Nat.le_of_ble_eq_true rfl) ?_
  simp (config := { maxSteps := 400000 }) only [go_sem, ↓reduceIte, reduceCtorEq, Nat.reduceEqDiff, Nat.reduceAdd, Nat.reduceLT, Nat.reduceLeDiff, Nat.reduceSub, Int.reduceToNat, Int.reduceLE, Int.reduceLT, Int.reduceNeg, Int.reduceBEq, Int.reduceBNe, Nat.reduceMul, Int.reduceAdd, Int.reduceMul, Int.reduceSub, Int.reduceEq, Int.reduceNe]
  refine WF_pure (cIndexFunc0 l p b sz hsz hl hf) rfl ?_
  simp (config := { maxSteps := 400000 }) only [go_sem, ↓reduceIte, reduceCtorEq, Nat.reduceEqDiff, Nat.reduceAdd, Nat.reduceLT, Nat.reduceLeDiff, Nat.reduceSub, Int.reduceToNat, Int.reduceLE, Int.reduceLT, Int.reduceNeg, Int.reduceBEq, Int.reduceBNe, Nat.reduceMul, Int.reduceAdd, Int.reduceMul, Int.reduceSub, Int.reduceEq, Int.reduceNe]
  rw [idxF_any]
theorem cIndexFunc1 {fv : PV} (l : List Span) (p : Span → Bool) (b : Bool) (sz : Nat) (hsz : sz = 2) (hl : l.length < 1000000000) (hf : ∀ x, x ∈ l → App Try.prog fv [Span.pv x] (.bool (p x))) :
    PCall Try.prog 86 [.slice sz (l.map Span.pv) b, fv] (.int .i64 (idxF p l 0)) := by
  subst hsz
  refine pcall_of_wp draws (fn := Try.f86) (n := 19) (rs := [.tmp 4]) (by kernel_rfl) rfl rfl rfl ok86 (Nat.le_of_ble_eq_true rfl) ?_
  simp (config := { maxSteps := 400000 }) only [go_sem, ↓reduceIte, reduceCtorEq, Nat.reduceEqDiff, Nat.reduceAdd, Nat.reduceLT, Nat.reduceLeDiff, Nat.reduceSub, Int.reduceToNat, Int.reduceLE, Int.reduceLT, Int.reduceNeg, Int.reduceBEq, Int.reduceBNe, Nat.reduceMul, Int.reduceAdd, Int.reduceMul, Int.reduceSub, Int.reduceEq, Int.reduceNe]
  refine W_loopH [0, 1, 7] (σ := List Span × List Span) (fun s => l = s.1 ++ s.2 ∧ idxF p l 0 = idxF p s.2 s.1.length) (fun s => s.2.length) (fun s => [(8, .p (.int .i64 s.1.length))]) ([], l) ⟨rfl, rfl⟩ ?_ ?_
  · simp (config := { maxSteps := 400000 }) only [go_sem, ↓reduceIte, reduceCtorEq, Nat.reduceEqDiff, Nat.reduceAdd, Nat.reduceLT, Nat.reduceLeDiff, Nat.reduceSub, Int.reduceToNat, Int.reduceLE, Int.reduceLT, Int.reduceNeg, Int.reduceBEq, Int.reduceBNe, Nat.reduceMul, Int.reduceAdd, Int.reduceMul, Int.reduceSub, Int.reduceEq, Int.reduceNe] <;> simp
  · rintro ⟨done, rest⟩ ⟨e1, e2⟩
    dsimp only at e1 e2
    cases rest with
    | nil =>
      have hlt : ¬ ((done.length : Int) < (l.length : Int)) := by rw [e1]; simp
      simp (config := { maxSteps := 400000 }) only [hlt, decide_false, go_sem, ↓reduceIte, reduceCtorEq, Nat.reduceEqDiff, Nat.reduceAdd, Nat.reduceLT, Nat.reduceLeDiff, Nat.reduceSub, Int.reduceToNat, Int.reduceLE, Int.reduceLT, Int.reduceNeg, Int.reduceBEq, Int.reduceBNe, Nat.reduceMul, Int.reduceAdd, Int.reduceMul, Int.reduceSub, Int.reduceEq, Int.reduceNe]
      rw [e2]; rfl
    | cons x r =>
      obtain ⟨hx, hlt⟩ := list_at e1
      have hnx : IntKind.i64.wrap ((done.length : Int) + 1) = (((done ++ [x]).length : Nat) : Int) := wrap_add (by omega) (by simp [room]; omega) (by simp)
      obtain ⟨g, first, cap, rfl, hc⟩ := hf x (by rw [e1]; simp)
      simp (config := { maxSteps := 400000 }) only [hlt, decide_true, hx, Span.pv, go_sem, ↓reduceIte, reduceCtorEq, Nat.reduceEqDiff, Nat.reduceAdd, Nat.reduceLT, Nat.reduceLeDiff, Nat.reduceSub, Int.reduceToNat, Int.reduceLE, Int.reduceLT, Int.reduceNeg, Int.reduceBEq, Int.reduceBNe, Nat.reduceMul, Int.reduceAdd, Int.reduceMul, Int.reduceSub, Int.reduceEq, Int.reduceNe]
      refine WF_pure hc (by simp [Span.pv]) ?_
      simp (config := { maxSteps := 400000 }) only [go_sem, ↓reduceIte, reduceCtorEq, Nat.reduceEqDiff, Nat.reduceAdd, Nat.reduceLT, Nat.reduceLeDiff, Nat.reduceSub, Int.reduceToNat, Int.reduceLE, Int.reduceLT, Int.reduceNeg, Int.reduceBEq, Int.reduceBNe, Nat.reduceMul, Int.reduceAdd, Int.reduceMul, Int.reduceSub, Int.reduceEq, Int.reduceNe]
      refine WB_split (fun hb => ?_) (fun hb => ?_)
      · simp (config := { maxSteps := 400000 }) only [go_sem, ↓reduceIte, reduceCtorEq, Nat.reduceEqDiff, Nat.reduceAdd, Nat.reduceLT, Nat.reduceLeDiff, Nat.reduceSub, Int.reduceToNat, Int.reduceLE, Int.reduceLT, Int.reduceNeg, Int.reduceBEq, Int.reduceBNe, Nat.reduceMul, Int.reduceAdd, Int.reduceMul, Int.reduceSub, Int.reduceEq, Int.reduceNe]
        rw [e2]
        simp [idxF, hb]
      · simp (config := { maxSteps := 400000 }) only [go_sem, ↓reduceIte, reduceCtorEq, Nat.reduceEqDiff, Nat.reduceAdd, Nat.reduceLT, Nat.reduceLeDiff, Nat.reduceSub, Int.reduceToNat, Int.reduceLE, Int.reduceLT, Int.reduceNeg, Int.reduceBEq, Int.reduceBNe, Nat.reduceMul, Int.reduceAdd, Int.reduceMul, Int.reduceSub, Int.reduceEq, Int.reduceNe]
        refine WQ_headA (done ++ [x], r) ⟨by simp [e1], by rw [e2]; simp [idxF, hb]⟩ (by simp) ?_
        simp (config := { maxSteps := 400000 }) only [hnx, go_sem, ↓reduceIte, reduceCtorEq, Nat.reduceEqDiff, Nat.reduceAdd, Nat.reduceLT, Nat.reduceLeDiff, Nat.reduceSub, Int.reduceToNat, Int.reduceLE, Int.reduceLT, Int.reduceNeg, Int.reduceBEq, Int.reduceBNe, Nat.reduceMul, Int.reduceAdd, Int.reduceMul, Int.reduceSub, Int.reduceEq, Int.reduceNe]
theorem cContainsFunc1 {fv : PV} (l : List Span) (p : Span → Bool) (b : Bool) (sz : Nat) (hsz : sz = 2) (hl : l.length < 1000000000) (hf : ∀ x, x ∈ l → App Try.prog fv [Span.pv x] (.bool (p x))) :
    PCall Try.prog 67 [.slice sz (l.map Span.pv) b, fv] (.bool (l.any p)) := by
  refine pcall_of_wp draws (fn := Try.f67) (n := 9) (rs := [.tmp 4]) (by kernel_rfl) rfl rfl rfl ok67 (Nat.le_of_ble_eq_true rfl) ?_
  simp (config := { maxSteps := 400000 }) only [go_sem, ↓reduceIte, reduceCtorEq, Nat.reduceEqDiff, Nat.reduceAdd, Nat.reduceLT, Nat.reduceLeDiff, Nat.reduceSub, Int.reduceToNat, Int.reduceLE, Int.reduceLT, Int.reduceNeg, Int.reduceBEq, Int.reduceBNe, Nat.reduceMul, Int.reduceAdd, Int.reduceMul, Int.reduceSub, Int.reduceEq, Int.reduceNe]
  refine WF_pure (cIndexFunc1 l p b sz hsz hl hf) rfl ?_
  simp (config := { maxSteps := 400000 }) only [go_sem, ↓reduceIte, reduceCtorEq, Nat.reduceEqDiff, Nat.reduceAdd, Nat.reduceLT, Nat.reduceLeDiff, Nat.reduceSub, Int.reduceToNat, Int.reduceLE, Int.reduceLT, Int.reduceNeg, Int.reduceBEq, Int.reduceBNe, Nat.reduceMul, Int.reduceAdd, Int.reduceMul, Int.reduceSub, Int.reduceEq, Int.reduceNe]
  rw [idxF_any]
theorem cIndexFunc2 {fv : PV} (l : List Wick) (p : Wick → Bool) (b : Bool) (sz : Nat) (hsz : sz = 4) (hl : l.length < 1000000000) (hf : ∀ x, x ∈ l → App Try.prog fv [Wick.pv x] (.bool (p x))) :
    PCall Try.prog 87 [.slice sz (l.map Wick.pv) b, fv] (.int .i64 (idxF p l 0)) := by
  subst hsz
  refine pcall_of_wp draws (fn := Try.f87) (n := 19) (rs := [.tmp 4]) (by kernel_rfl) rfl rfl rfl ok87 (Nat.le_of_ble_eq_true rfl) ?_
  simp (config := { maxSteps := 400000 }) only [go_sem, ↓reduceIte, reduceCtorEq, Nat.reduceEqDiff, Nat.reduceAdd, Nat.reduceLT, Nat.reduceLeDiff, Nat.reduceSub, Int.reduceToNat, Int.reduceLE, Int.reduceLT, Int.reduceNeg, Int.reduceBEq, Int.reduceBNe, Nat.reduceMul, Int.reduceAdd, Int.reduceMul, Int.reduceSub, Int.reduceEq, Int.reduceNe]
  refine W_loopH [0, 1, 7] (σ := List Wick × List Wick) (fun s => l = s.1 ++ s.2 ∧ idxF p l 0 = idxF p s.2 s.1.length) (fun s => s.2.length) (fun s => [(8, .p (.int .i64 s.1.length))]) ([], l) ⟨rfl, rfl⟩ ?_ ?_
  · simp (config := { maxSteps := 400000 }) only [go_sem, ↓reduceIte, reduceCtorEq, Nat.reduceEqDiff, Nat.reduceAdd, Nat.reduceLT, Nat.reduceLeDiff, Nat.reduceSub, Int.reduceToNat, Int.reduceLE, Int.reduceLT, Int.reduceNeg, Int.reduceBEq, Int.reduceBNe, Nat.reduceMul, Int.reduceAdd, Int.reduceMul, Int.reduceSub, Int.reduceEq, Int.reduceNe] <;> simp
  · rintro ⟨done, rest⟩ ⟨e1, e2⟩
    dsimp only at e1 e2
    cases rest with
    | nil =>
      have hlt : ¬ ((done.length : Int) < (l.length : Int)) := by rw [e1]; simp
      simp (config := { maxSteps := 400000 }) only [hlt, decide_false, go_sem, ↓reduceIte, reduceCtorEq, Nat.reduceEqDiff, Nat.reduceAdd, Nat.reduceLT, Nat.reduceLeDiff, Nat.reduceSub, Int.reduceToNat, Int.reduceLE, Int.reduceLT, Int.reduceNeg, Int.reduceBEq, Int.reduceBNe, Nat.reduceMul, Int.reduceAdd, Int.reduceMul, Int.reduceSub, Int.reduceEq, Int.reduceNe]
      rw [e2]; rfl
    | cons x r =>
      obtain ⟨hx, hlt⟩ := list_at e1
      have hnx : IntKind.i64.wrap ((done.length : Int) + 1) = (((done ++ [x]).length : Nat) : Int) := wrap_add (by omega) (by simp [room]; omega) (by simp)
      obtain ⟨g, first, cap, rfl, hc⟩ := hf x (by rw [e1]; simp)
      simp (config := { maxSteps := 400000 }) only [hlt, decide_true, hx, Wick.pv, go_sem, ↓reduceIte, reduceCtorEq, Nat.reduceEqDiff, Nat.reduceAdd, Nat.reduceLT, Nat.reduceLeDiff, Nat.reduceSub, Int.reduceToNat, Int.reduceLE, Int.reduceLT, Int.reduceNeg, Int.reduceBEq, Int.reduceBNe, Nat.reduceMul, Int.reduceAdd, Int.reduceMul, Int.reduceSub, Int.reduceEq, Int.reduceNe]
      refine WF_pure hc (by simp [Wick.pv]) ?_
      simp (config := { maxSteps := 400000 }) only [go_sem, ↓reduceIte, reduceCtorEq, Nat.reduceEqDiff, Nat.reduceAdd, Nat.reduceLT, Nat.reduceLeDiff, Nat.reduceSub, Int.reduceToNat, Int.reduceLE, Int.reduceLT, Int.reduceNeg, Int.reduceBEq, Int.reduceBNe, Nat.reduceMul, Int.reduceAdd, Int.reduceMul, Int.reduceSub, Int.reduceEq, Int.reduceNe]
      refine WB_split (fun hb => ?_) (fun hb => ?_)
      · simp (config := { maxSteps := 400000 }) only [go_sem, ↓reduceIte, reduceCtorEq, Nat.reduceEqDiff, Nat.reduceAdd, Nat.reduceLT, Nat.reduceLeDiff, Nat.reduceSub, Int.reduceToNat, Int.reduceLE, Int.reduceLT, Int.reduceNeg, Int.reduceBEq, Int.reduceBNe, Nat.reduceMul, Int.reduceAdd, Int.reduceMul, Int.reduceSub, Int.reduceEq, Int.reduceNe]
        rw [e2]
        simp [idxF, hb]
      · simp (config := { maxSteps := 400000 }) only [go_sem, ↓reduceIte, reduceCtorEq, Nat.reduceEqDiff, Nat.reduceAdd, Nat.reduceLT, Nat.reduceLeDiff, Nat.reduceSub, Int.reduceToNat, Int.reduceLE, Int.reduceLT, Int.reduceNeg, Int.reduceBEq, Int.reduceBNe, Nat.reduceMul, Int.reduceAdd, Int.reduceMul, Int.reduceSub, Int.reduceEq, Int.reduceNe]
        refine WQ_headA (done ++ [x], r) ⟨by simp [e1], by rw [e2]; simp [idxF, hb]⟩ (by simp) ?_
        simp (config := { maxSteps := 400000 }) only [hnx, go_sem, ↓reduceIte, reduceCtorEq, Nat.reduceEqDiff, Nat.reduceAdd, Nat.reduceLT, Nat.reduceLeDiff, Nat.reduceSub, Int.reduceToNat, Int.reduceLE, Int.reduceLT, Int.reduceNeg, Int.reduceBEq, Int.reduceBNe, Nat.reduceMul, Int.reduceAdd, Int.reduceMul, Int.reduceSub, Int.reduceEq, Int.reduceNe]
theorem cContainsFunc2 {fv : PV} (l : List Wick) (p : Wick → Bool) (b : Bool) (sz : Nat) (hsz : sz = 4) (hl : l.length < 1000000000) (hf : ∀ x, x ∈ l → App Try.prog fv [Wick.pv x] (.bool (p x))) :
    PCall Try.prog 70 [.slice sz (l.map Wick.pv) b, fv] (.bool (l.any p)) := by
  refine pcall_of_wp draws (fn := Try.f70) (n := 9) (rs := [.tmp 4]) (by kernel_rfl) rfl rfl rfl ok70 (Nat.le_of_ble_eq_true rfl) ?_
  simp (config := { maxSteps := 400000 }) only [go_sem, ↓reduceIte, reduceCtorEq, Nat.reduceEqDiff, Nat.reduceAdd, Nat.reduceLT, Nat.reduceLeDiff, Nat.reduceSub, Int.reduceToNat, Int.reduceLE, Int.reduceLT, Int.reduceNeg, Int.reduceBEq, Int.reduceBNe, Nat.reduceMul, Int.reduceAdd, Int.reduceMul, Int.reduceSub, Int.reduceEq, Int.reduceNe]
  refine WF_pure (cIndexFunc2 l p b sz hsz hl hf) rfl ?_
  simp (config := { maxSteps := 400000 }) only [go_sem, ↓reduceIte, reduceCtorEq, Nat.reduceEqDiff, Nat.reduceAdd, Nat.reduceLT, Nat.reduceLeDiff, Nat.reduceSub, Int.reduceToNat, Int.reduceLE, Int.reduceLT, Int.reduceNeg, Int.reduceBEq, Int.reduceBNe, Nat.reduceMul, Int.reduceAdd, Int.reduceMul, Int.reduceSub, Int.reduceEq, Int.reduceNe]
  rw [idxF_any]
theorem cIndexFunc3 {fv : PV} (l : List Wax) (p : Wax → Bool) (b : Bool) (sz : Nat) (hsz : sz = 8) (hl : l.length < 1000000000) (hf : ∀ x, x ∈ l → App Try.prog fv [Wax.pv x] (.bool (p x))) :
    PCall Try.prog 88 [.slice sz (l.map Wax.pv) b, fv] (.int .i64 (idxF p l 0)) := by
  subst hsz
  refine pcall_of_wp draws (fn := Try.f88) (n := 19) (rs := [.tmp 4]) (by kernel_rfl) rfl rfl rfl ok88 (Nat.le_of_ble_eq_true rfl) ?_
  simp (config := { maxSteps := 400000 }) only [go_sem, ↓reduceIte, reduceCtorEq, Nat.reduceEqDiff, Nat.reduceAdd, Nat.reduceLT, Nat.reduceLeDiff, Nat.reduceSub, Int.reduceToNat, Int.reduceLE, Int.reduceLT, Int.reduceNeg, Int.reduceBEq, Int.reduceBNe, Nat.reduceMul, Int.reduceAdd, Int.reduceMul, Int.reduceSub, Int.reduceEq, Int.reduceNe]
  refine W_loopH [0, 1, 7] (σ := List Wax × List Wax) (fun s => l = s.1 ++ s.2 ∧ idxF p l 0 = idxF p s.2 s.1.length) (fun s => s.2.length) (fun s => [(8, .p (.int .i64 s.1.length))]) ([], l) ⟨rfl, rfl⟩ ?_ ?_
  · simp (config := { maxSteps := 400000 }) only [go_sem, ↓reduceIte, reduceCtorEq, Nat.reduceEqDiff, Nat.reduceAdd, Nat.reduceLT, Nat.reduceLeDiff, Nat.reduceSub, Int.reduceToNat, Int.reduceLE, Int.reduceLT, Int.reduceNeg, Int.reduceBEq, Int.reduceBNe, Nat.reduceMul, Int.reduceAdd, Int.reduceMul, Int.reduceSub, Int.reduceEq, Int.reduceNe] <;> simp
  · rintro ⟨done, rest⟩ ⟨e1, e2⟩
    dsimp only at e1 e2
    cases rest with
    | nil =>
      have hlt : ¬ ((done.length : Int) < (l.length : Int)) := by rw [e1]; simp
      simp (config := { maxSteps := 400000 }) only [hlt, decide_false, go_sem, ↓reduceIte, reduceCtorEq, Nat.reduceEqDiff, Nat.reduceAdd, Nat.reduceLT, Nat.reduceLeDiff, Nat.reduceSub, Int.reduceToNat, Int.reduceLE, Int.reduceLT, Int.reduceNeg, Int.reduceBEq, Int.reduceBNe, Nat.reduceMul, Int.reduceAdd, Int.reduceMul, Int.reduceSub, Int.reduceEq, Int.reduceNe]
      rw [e2]; rfl
    | cons x r =>
      obtain ⟨hx, hlt⟩ := list_at e1
      have hnx : IntKind.i64.wrap ((done.length : Int) + 1) = (((done ++ [x]).length : Nat) : Int) := wrap_add (by omega) (by simp [room]; omega) (by simp)
      obtain ⟨g, first, cap, rfl, hc⟩ := hf x (by rw [e1]; simp)
      simp (config := { maxSteps := 400000 }) only [hlt, decide_true, hx, Wax.pv, go_sem, ↓reduceIte, reduceCtorEq, Nat.reduceEqDiff, Nat.reduceAdd, Nat.reduceLT, Nat.reduceLeDiff, Nat.reduceSub, Int.reduceToNat, Int.reduceLE, Int.reduceLT, Int.reduceNeg, Int.reduceBEq, Int.reduceBNe, Nat.reduceMul, Int.reduceAdd, Int.reduceMul, Int.reduceSub, Int.reduceEq, Int.reduceNe]
      refine WF_pure hc (by simp [Wax.pv]) ?_
      simp (config := { maxSteps := 400000 }) only [go_sem, ↓reduceIte, reduceCtorEq, Nat.reduceEqDiff, Nat.reduceAdd, Nat.reduceLT, Nat.reduceLeDiff, Nat.reduceSub, Int.reduceToNat, Int.reduceLE, Int.reduceLT, Int.reduceNeg, Int.reduceBEq, Int.reduceBNe, Nat.reduceMul, Int.reduceAdd, Int.reduceMul, Int.reduceSub, Int.reduceEq, Int.reduceNe]
      refine WB_split (fun hb => ?_) (fun hb => ?_)
      · simp (config := { maxSteps := 400000 }) only [go_sem, ↓reduceIte, reduceCtorEq, Nat.reduceEqDiff, Nat.reduceAdd, Nat.reduceLT, Nat.reduceLeDiff, Nat.reduceSub, Int.reduceToNat, Int.reduceLE, Int.reduceLT, Int.reduceNeg, Int.reduceBEq, Int.reduceBNe, Nat.reduceMul, Int.reduceAdd, Int.reduceMul, Int.reduceSub, Int.reduceEq, Int.reduceNe]
        rw [e2]
        simp [idxF, hb]
      · simp (config := { maxSteps := 400000 }) only [go_sem, ↓reduceIte, reduceCtorEq, Nat.reduceEqDiff, Nat.reduceAdd, Nat.reduceLT, Nat.reduceLeDiff, Nat.reduceSub, Int.reduceToNat, Int.reduceLE, Int.reduceLT, Int.reduceNeg, Int.reduceBEq, Int.reduceBNe, Nat.reduceMul, Int.reduceAdd, Int.reduceMul, Int.reduceSub, Int.reduceEq, Int.reduceNe]
        refine WQ_headA (done ++ [x], r) ⟨by simp [e1], by rw [e2]; simp [idxF, hb]⟩ (by simp) ?_
        simp (config := { maxSteps := 400000 }) only [hnx, go_sem, ↓reduceIte, reduceCtorEq, Nat.reduceEqDiff, Nat.reduceAdd, Nat.reduceLT, Nat.reduceLeDiff, Nat.reduceSub, Int.reduceToNat, Int.reduceLE, Int.reduceLT, Int.reduceNeg, Int.reduceBEq, Int.reduceBNe, Nat.reduceMul, Int.reduceAdd, Int.reduceMul, Int.reduceSub, Int.reduceEq, Int.reduceNe]
theorem cContainsFunc3 {fv : PV} (l : List Wax) (p : Wax → Bool) (b : Bool) (sz : Nat) (hsz : sz = 8) (hl : l.length < 1000000000) (hf : ∀ x, x ∈ l → App Try.prog fv [Wax.pv x] (.bool (p x))) :
    PCall Try.prog 72 [.slice sz (l.map Wax.pv) b, fv] (.bool (l.any p)) := by
  refine pcall_of_wp draws (fn := Try.f72) (n := 9) (rs := [.tmp 4]) (by kernel_rfl) rfl rfl rfl ok72 (Nat.le_of_ble_eq_true rfl) ?_
  simp (config := { maxSteps := 400000 }) only [go_sem, ↓reduceIte, reduceCtorEq, Nat.reduceEqDiff, Nat.reduceAdd, Nat.reduceLT, Nat.reduceLeDiff, Nat.reduceSub, Int.reduceToNat, Int.reduceLE, Int.reduceLT, Int.reduceNeg, Int.reduceBEq, Int.reduceBNe, Nat.reduceMul, Int.reduceAdd, Int.reduceMul, Int.reduceSub, Int.reduceEq, Int.reduceNe]
  refine WF_pure (cIndexFunc3 l p b sz hsz hl hf) rfl ?_
  simp (config := { maxSteps := 400000 }) only [go_sem, ↓reduceIte, reduceCtorEq, Nat.reduceEqDiff, Nat.reduceAdd, Nat.reduceLT, Nat.reduceLeDiff, Nat.reduceSub, Int.reduceToNat, Int.reduceLE, Int.reduceLT, Int.reduceNeg, Int.reduceBEq, Int.reduceBNe, Nat.reduceMul, Int.reduceAdd, Int.reduceMul, Int.reduceSub, Int.reduceEq, Int.reduceNe]
  rw [idxF_any]
end Abs
end Go.Proofs.Ytdgmmijimclooaa
