/-
  CONTRACTS OF Go's LIBRARY, as far as a seat's program reaches it: slices.IndexFunc, slices.ContainsFunc, slices.Clone, sort.Search.
-/
import Derived.Test.YthekmbikolpmlaaAbsKill
import Derived.Test.YthekmbikolpmlaaSeatTy
import Derived.Test.YthekmbikolpmlaaBdData
namespace Go.Proofs.Ythekmbikolpmlaa
namespace Abs
set_option linter.unusedSimpArgs false
set_option maxRecDepth 4000

theorem frzList_p (n : Nat) (h : Heap) : ∀ l : List PV, frzList (frzN n h) (l.map .p) = some l
  | [] => rfl
  | x :: r => by rw [List.map_cons, frzList, frzList_p n h r, frzN_p]
theorem pures_p : ∀ l : List PV, pures (l.map .p) = some l
  | [] => rfl
  | x :: r => by rw [List.map_cons, pures, pures_p r]
attribute [go_sem] frzList_p pures_p

/-- a function value, called on these values, gives this one -/
def App (P : Program) (fv : PV) (xs : List PV) (y : PV) : Prop := ∃ (g : FuncId) (first cap : List PV), fv = .func (.func g) first cap ∧ PCall P g (first ++ xs ++ cap) y

/-- the place of the first one, from i on; -1: there is none -/
def idxF {α : Type} (p : α → Bool) : List α → Nat → Int
  | [], _ => -1
  | x :: r, i => if p x = true then (i : Int) else idxF p r (i + 1)
theorem idxF_any {α : Type} (p : α → Bool) : ∀ (l : List α) (i : Nat), decide (0 ≤ idxF p l i) = l.any p
  | [], i => by simp [idxF]
  | x :: r, i => by
    unfold idxF
    rw [List.any_cons]
    cases hx : p x
    · simp only [Bool.false_eq_true, if_false, Bool.false_or]; exact idxF_any p r (i + 1)
    · simp
theorem wrap_add {a b c : Int} (h0 : 0 ≤ c) (h : c ≤ room) (e : a + b = c) : IntKind.i64.wrap (a + b) = c := by rw [e]; exact wrap_small h0 h

theorem list_at {α : Type} {l done r : List α} {x : α} (h : l = done ++ x :: r) : l[done.length]? = some x ∧ ((done.length : Int) < (l.length : Int)) := by
  subst h
  refine ⟨by simp, by simp; omega⟩

theorem cIndexFunc0 {fv : PV} (l : List Int) (p : Int → Bool) (b : Bool) (sz : Nat) (hsz : sz = 1) (hl : l.length < 1000000000) (hf : ∀ x, x ∈ l → App Try.prog fv [intPV x] (.bool (p x))) :
    PCall Try.prog 99 [.slice sz (l.map intPV) b, fv] (.int .i64 (idxF p l 0)) := by
  subst hsz
  refine pcall_of_wp draws (fn := Try.f99) (n := 19) (rs := [.tmp 4]) (by kernel_rfl) rfl rfl rfl ok99 (Nat.le_of_ble_eq_true rfl) ?_
  simp (config := { maxSteps := 400000 }) only [go_sem, ↓reduceIte, reduceCtorEq, Nat.reduceEqDiff, Nat.reduceAdd, Nat.reduceLT, Nat.reduceLeDiff, Nat.reduceSub, Int.reduceToNat, Int.reduceLE, Int.reduceLT, Int.reduceNeg, Int.reduceBEq, Int.reduceBNe, Nat.reduceMul, Int.reduceAdd, Int.reduceMul, Int.reduceSub, Int.reduceEq, Int.reduceNe]
  refine W_rangeH [0, 1, 7] l hl (τ := Unit) (fun done rest _ => idxF p l 0 = idxF p rest done.length) (fun done _ => [(8, .p (.int .i64 done.length))]) () rfl ?_ ?_ ?_
  · simp (config := { maxSteps := 400000 }) only [go_sem, ↓reduceIte, reduceCtorEq, Nat.reduceEqDiff, Nat.reduceAdd, Nat.reduceLT, Nat.reduceLeDiff, Nat.reduceSub, Int.reduceToNat, Int.reduceLE, Int.reduceLT, Int.reduceNeg, Int.reduceBEq, Int.reduceBNe, Nat.reduceMul, Int.reduceAdd, Int.reduceMul, Int.reduceSub, Int.reduceEq, Int.reduceNe] <;> simp
  · intro _ e2
    simp (config := { maxSteps := 400000 }) only [go_sem, ↓reduceIte, reduceCtorEq, Nat.reduceEqDiff, Nat.reduceAdd, Nat.reduceLT, Nat.reduceLeDiff, Nat.reduceSub, Int.reduceToNat, Int.reduceLE, Int.reduceLT, Int.reduceNeg, Int.reduceBEq, Int.reduceBNe, Nat.reduceMul, Int.reduceAdd, Int.reduceMul, Int.reduceSub, Int.reduceEq, Int.reduceNe]
    rw [e2]; rfl
  · intro done x r _ e1 e2 hx hlt hnx
    obtain ⟨g, first, cap, rfl, hc⟩ := hf x (by rw [e1]; simp)
    simp (config := { maxSteps := 400000 }) only [hlt, decide_true, hx, intPV, go_sem, ↓reduceIte, reduceCtorEq, Nat.reduceEqDiff, Nat.reduceAdd, Nat.reduceLT, Nat.reduceLeDiff, Nat.reduceSub, Int.reduceToNat, Int.reduceLE, Int.reduceLT, Int.reduceNeg, Int.reduceBEq, Int.reduceBNe, Nat.reduceMul, Int.reduceAdd, Int.reduceMul, Int.reduceSub, Int.reduceEq, Int.reduceNe]
    refine WF_pure hc (by simp [intPV]) ?_
    simp (config := { maxSteps := 400000 }) only [go_sem, ↓reduceIte, reduceCtorEq, Nat.reduceEqDiff, Nat.reduceAdd, Nat.reduceLT, Nat.reduceLeDiff, Nat.reduceSub, Int.reduceToNat, Int.reduceLE, Int.reduceLT, Int.reduceNeg, Int.reduceBEq, Int.reduceBNe, Nat.reduceMul, Int.reduceAdd, Int.reduceMul, Int.reduceSub, Int.reduceEq, Int.reduceNe]
    refine WB_split (fun hb => ?_) (fun hb => ?_)
    · simp (config := { maxSteps := 400000 }) only [go_sem, ↓reduceIte, reduceCtorEq, Nat.reduceEqDiff, Nat.reduceAdd, Nat.reduceLT, Nat.reduceLeDiff, Nat.reduceSub, Int.reduceToNat, Int.reduceLE, Int.reduceLT, Int.reduceNeg, Int.reduceBEq, Int.reduceBNe, Nat.reduceMul, Int.reduceAdd, Int.reduceMul, Int.reduceSub, Int.reduceEq, Int.reduceNe]
      rw [e2]
      simp [idxF, hb]
    · simp (config := { maxSteps := 400000 }) only [go_sem, ↓reduceIte, reduceCtorEq, Nat.reduceEqDiff, Nat.reduceAdd, Nat.reduceLT, Nat.reduceLeDiff, Nat.reduceSub, Int.reduceToNat, Int.reduceLE, Int.reduceLT, Int.reduceNeg, Int.reduceBEq, Int.reduceBNe, Nat.reduceMul, Int.reduceAdd, Int.reduceMul, Int.reduceSub, Int.reduceEq, Int.reduceNe]
      refine WQ_next e1 () (by rw [e2]; simp [idxF, hb]) ?_
      simp (config := { maxSteps := 400000 }) only [hnx, go_sem, ↓reduceIte, reduceCtorEq, Nat.reduceEqDiff, Nat.reduceAdd, Nat.reduceLT, Nat.reduceLeDiff, Nat.reduceSub, Int.reduceToNat, Int.reduceLE, Int.reduceLT, Int.reduceNeg, Int.reduceBEq, Int.reduceBNe, Nat.reduceMul, Int.reduceAdd, Int.reduceMul, Int.reduceSub, Int.reduceEq, Int.reduceNe]
theorem cContainsFunc0 {fv : PV} (l : List Int) (p : Int → Bool) (b : Bool) (sz : Nat) (hsz : sz = 1) (hl : l.length < 1000000000) (hf : ∀ x, x ∈ l → App Try.prog fv [intPV x] (.bool (p x))) :
    PCall Try.prog 81 [.slice sz (l.map intPV) b, fv] (.bool (l.any p)) := by
  refine pcall_of_wp draws (fn := Try.f81) (n := 9) (rs := [.tmp 4]) (by kernel_rfl) rfl rfl rfl ok81 (Nat.le_of_ble_eq_true rfl) ?_
  simp (config := { maxSteps := 400000 }) only [go_sem, ↓reduceIte, reduceCtorEq, Nat.reduceEqDiff, Nat.reduceAdd, Nat.reduceLT, Nat.reduceLeDiff, Nat.reduceSub, Int.reduceToNat, Int.reduceLE, Int.reduceLT, Int.reduceNeg, Int.reduceBEq, Int.reduceBNe, Nat.reduceMul, Int.reduceAdd, Int.reduceMul, Int.reduceSub, Int.reduceEq, Int.reduceNe]
  refine WF_pure (cIndexFunc0 l p b sz hsz hl hf) rfl ?_
  simp (config := { maxSteps := 400000 }) only [go_sem, ↓reduceIte, reduceCtorEq, Nat.reduceEqDiff, Nat.reduceAdd, Nat.reduceLT, Nat.reduceLeDiff, Nat.reduceSub, Int.reduceToNat, Int.reduceLE, Int.reduceLT, Int.reduceNeg, Int.reduceBEq, Int.reduceBNe, Nat.reduceMul, Int.reduceAdd, Int.reduceMul, Int.reduceSub, Int.reduceEq, Int.reduceNe]
  rw [idxF_any]
theorem cIndexFunc2 {fv : PV} (l : List BdWax) (p : BdWax → Bool) (b : Bool) (sz : Nat) (hsz : sz = 7) (hl : l.length < 1000000000) (hf : ∀ x, x ∈ l → App Try.prog fv [BdWax.pv x] (.bool (p x))) :
    PCall Try.prog 83 [.slice sz (l.map BdWax.pv) b, fv] (.int .i64 (idxF p l 0)) := by
  subst hsz
  refine pcall_of_wp draws (fn := Try.f83) (n := 19) (rs := [.tmp 4]) (by kernel_rfl) rfl rfl rfl ok83 (Nat.le_of_ble_eq_true rfl) ?_
  simp (config := { maxSteps := 400000 }) only [go_sem, ↓reduceIte, reduceCtorEq, Nat.reduceEqDiff, Nat.reduceAdd, Nat.reduceLT, Nat.reduceLeDiff, Nat.reduceSub, Int.reduceToNat, Int.reduceLE, Int.reduceLT, Int.reduceNeg, Int.reduceBEq, Int.reduceBNe, Nat.reduceMul, Int.reduceAdd, Int.reduceMul, Int.reduceSub, Int.reduceEq, Int.reduceNe]
  refine W_rangeH [0, 1, 7] l hl (τ := Unit) (fun done rest _ => idxF p l 0 = idxF p rest done.length) (fun done _ => [(8, .p (.int .i64 done.length))]) () rfl ?_ ?_ ?_
  · simp (config := { maxSteps := 400000 }) only [go_sem, ↓reduceIte, reduceCtorEq, Nat.reduceEqDiff, Nat.reduceAdd, Nat.reduceLT, Nat.reduceLeDiff, Nat.reduceSub, Int.reduceToNat, Int.reduceLE, Int.reduceLT, Int.reduceNeg, Int.reduceBEq, Int.reduceBNe, Nat.reduceMul, Int.reduceAdd, Int.reduceMul, Int.reduceSub, Int.reduceEq, Int.reduceNe] <;> simp
  · intro _ e2
    simp (config := { maxSteps := 400000 }) only [go_sem, ↓reduceIte, reduceCtorEq, Nat.reduceEqDiff, Nat.reduceAdd, Nat.reduceLT, Nat.reduceLeDiff, Nat.reduceSub, Int.reduceToNat, Int.reduceLE, Int.reduceLT, Int.reduceNeg, Int.reduceBEq, Int.reduceBNe, Nat.reduceMul, Int.reduceAdd, Int.reduceMul, Int.reduceSub, Int.reduceEq, Int.reduceNe]
    rw [e2]; rfl
  · intro done x r _ e1 e2 hx hlt hnx
    obtain ⟨g, first, cap, rfl, hc⟩ := hf x (by rw [e1]; simp)
    simp (config := { maxSteps := 400000 }) only [hlt, decide_true, hx, BdWax.pv, go_sem, ↓reduceIte, reduceCtorEq, Nat.reduceEqDiff, Nat.reduceAdd, Nat.reduceLT, Nat.reduceLeDiff, Nat.reduceSub, Int.reduceToNat, Int.reduceLE, Int.reduceLT, Int.reduceNeg, Int.reduceBEq, Int.reduceBNe, Nat.reduceMul, Int.reduceAdd, Int.reduceMul, Int.reduceSub, Int.reduceEq, Int.reduceNe]
    refine WF_pure hc (by simp [BdWax.pv]) ?_
    simp (config := { maxSteps := 400000 }) only [go_sem, ↓reduceIte, reduceCtorEq, Nat.reduceEqDiff, Nat.reduceAdd, Nat.reduceLT, Nat.reduceLeDiff, Nat.reduceSub, Int.reduceToNat, Int.reduceLE, Int.reduceLT, Int.reduceNeg, Int.reduceBEq, Int.reduceBNe, Nat.reduceMul, Int.reduceAdd, Int.reduceMul, Int.reduceSub, Int.reduceEq, Int.reduceNe]
    refine WB_split (fun hb => ?_) (fun hb => ?_)
    · simp (config := { maxSteps := 400000 }) only [go_sem, ↓reduceIte, reduceCtorEq, Nat.reduceEqDiff, Nat.reduceAdd, Nat.reduceLT, Nat.reduceLeDiff, Nat.reduceSub, Int.reduceToNat, Int.reduceLE, Int.reduceLT, Int.reduceNeg, Int.reduceBEq, Int.reduceBNe, Nat.reduceMul, Int.reduceAdd, Int.reduceMul, Int.reduceSub, Int.reduceEq, Int.reduceNe]
      rw [e2]
      simp [idxF, hb]
    · simp (config := { maxSteps := 400000 }) only [go_sem, ↓reduceIte, reduceCtorEq, Nat.reduceEqDiff, Nat.reduceAdd, Nat.reduceLT, Nat.reduceLeDiff, Nat.reduceSub, Int.reduceToNat, Int.reduceLE, Int.reduceLT, Int.reduceNeg, Int.reduceBEq, Int.reduceBNe, Nat.reduceMul, Int.reduceAdd, Int.reduceMul, Int.reduceSub, Int.reduceEq, Int.reduceNe]
      refine WQ_next e1 () (by rw [e2]; simp [idxF, hb]) ?_
      simp (config := { maxSteps := 400000 }) only [hnx, go_sem, ↓reduceIte, reduceCtorEq, Nat.reduceEqDiff, Nat.reduceAdd, Nat.reduceLT, Nat.reduceLeDiff, Nat.reduceSub, Int.reduceToNat, Int.reduceLE, Int.reduceLT, Int.reduceNeg, Int.reduceBEq, Int.reduceBNe, Nat.reduceMul, Int.reduceAdd, Int.reduceMul, Int.reduceSub, Int.reduceEq, Int.reduceNe]
theorem cContainsFunc2 {fv : PV} (l : List BdWax) (p : BdWax → Bool) (b : Bool) (sz : Nat) (hsz : sz = 7) (hl : l.length < 1000000000) (hf : ∀ x, x ∈ l → App Try.prog fv [BdWax.pv x] (.bool (p x))) :
    PCall Try.prog 50 [.slice sz (l.map BdWax.pv) b, fv] (.bool (l.any p)) := by
  refine pcall_of_wp draws (fn := Try.f50) (n := 9) (rs := [.tmp 4]) (by kernel_rfl) rfl rfl rfl ok50 (Nat.le_of_ble_eq_true rfl) ?_
  simp (config := { maxSteps := 400000 }) only [go_sem, ↓reduceIte, reduceCtorEq, Nat.reduceEqDiff, Nat.reduceAdd, Nat.reduceLT, Nat.reduceLeDiff, Nat.reduceSub, Int.reduceToNat, Int.reduceLE, Int.reduceLT, Int.reduceNeg, Int.reduceBEq, Int.reduceBNe, Nat.reduceMul, Int.reduceAdd, Int.reduceMul, Int.reduceSub, Int.reduceEq, Int.reduceNe]
  refine WF_pure (cIndexFunc2 l p b sz hsz hl hf) rfl ?_
  simp (config := { maxSteps := 400000 }) only [go_sem, ↓reduceIte, reduceCtorEq, Nat.reduceEqDiff, Nat.reduceAdd, Nat.reduceLT, Nat.reduceLeDiff, Nat.reduceSub, Int.reduceToNat, Int.reduceLE, Int.reduceLT, Int.reduceNeg, Int.reduceBEq, Int.reduceBNe, Nat.reduceMul, Int.reduceAdd, Int.reduceMul, Int.reduceSub, Int.reduceEq, Int.reduceNe]
  rw [idxF_any]
theorem nClone (l : List Int) (b : Bool) (hl : l ≠ []) (hlen : l.length < 1000000000) : PCallN Try.prog 75 [.slice 1 (l.map intPV) b] (.slice 1 (l.map intPV) false) := by
  refine pcallN_of_wp draws (fn := Try.f75) (n := 8) (rs := [.tmp 2]) (by kernel_rfl) rfl rfl rfl ok75 (Nat.le_of_ble_eq_true rfl) ?_
  have h1 : ¬ (l.map intPV = []) := by simpa using hl
  have h2 : l.length ≤ room := by simp [room]; omega
  have h3 : ¬ ((l.map intPV).map AV.p = []) := by simpa using hl
  simp (config := { maxSteps := 400000 }) only [h1, h2, h3, go_sem, ↓reduceIte, reduceCtorEq, Nat.reduceEqDiff, Nat.reduceAdd, Nat.reduceLT, Nat.reduceLeDiff, Nat.reduceSub, Int.reduceToNat, Int.reduceLE, Int.reduceLT, Int.reduceNeg, Int.reduceBEq, Int.reduceBNe, Nat.reduceMul, Int.reduceAdd, Int.reduceMul, Int.reduceSub, Int.reduceEq, Int.reduceNe]
theorem cClone (l : List Int) (b : Bool) (hl : l ≠ []) (hlen : l.length < 1000000000) : PCall Try.prog 75 [.slice 1 (l.map intPV) b] (.slice 1 (l.map intPV) false) := (nClone l b hl hlen).pure
theorem shr_half (a b : Nat) (h : a + b < 1000000000) : IntKind.i64.wrap (Int.fdiv (IntKind.u64.wrap ((a : Int) + (b : Int))) 2) = (((a + b) / 2 : Nat) : Int) := by
  have e : IntKind.u64.wrap ((a : Int) + (b : Int)) = ((a + b : Nat) : Int) := by
    unfold IntKind.wrap IntKind.signed IntKind.bits
    simp
    omega
  rw [e]
  have e2 : Int.fdiv ((a + b : Nat) : Int) 2 = (((a + b) / 2 : Nat) : Int) := by
    rw [Int.fdiv_eq_ediv_of_nonneg _ (by omega)]
    omega
  rw [e2]
  exact wrap_small (by omega) (by simp [room]; omega)
theorem cSearch {fv : PV} (n : Nat) (p : Nat → Bool) (hn : n < 100000000) (hf : ∀ i, i < n → App Try.prog fv [.int .i64 i] (.bool (p i))) (r : Nat) (hr : r ≤ n) (h1 : ∀ i, i < r → p i = false) (h2 : ∀ i, r ≤ i → i < n → p i = true) :
    PCall Try.prog 85 [.int .i64 n, fv] (.int .i64 r) := by
  refine pcall_of_wp draws (fn := Try.f85) (n := 26) (rs := [.tmp 4]) (by kernel_rfl) rfl rfl rfl ok85 (Nat.le_of_ble_eq_true rfl) ?_
  simp (config := { maxSteps := 400000 }) only [go_sem, ↓reduceIte, reduceCtorEq, Nat.reduceEqDiff, Nat.reduceAdd, Nat.reduceLT, Nat.reduceLeDiff, Nat.reduceSub, Int.reduceToNat, Int.reduceLE, Int.reduceLT, Int.reduceNeg, Int.reduceBEq, Int.reduceBNe, Nat.reduceMul, Int.reduceAdd, Int.reduceMul, Int.reduceSub, Int.reduceEq, Int.reduceNe]
  refine W_loopH [1] (σ := Nat × Nat) (fun s => s.1 ≤ r ∧ r ≤ s.2 ∧ s.2 ≤ n) (fun s => s.2 - s.1) (fun s => [(5, .p (.int .i64 s.1)), (6, .p (.int .i64 s.2))]) (0, n) ⟨by omega, hr, by omega⟩ ?_ ?_
  · simp (config := { maxSteps := 400000 }) only [go_sem, ↓reduceIte, reduceCtorEq, Nat.reduceEqDiff, Nat.reduceAdd, Nat.reduceLT, Nat.reduceLeDiff, Nat.reduceSub, Int.reduceToNat, Int.reduceLE, Int.reduceLT, Int.reduceNeg, Int.reduceBEq, Int.reduceBNe, Nat.reduceMul, Int.reduceAdd, Int.reduceMul, Int.reduceSub, Int.reduceEq, Int.reduceNe]
  · rintro ⟨i, j⟩ ⟨g1, g2, g3⟩
    dsimp only at g1 g2 g3
    simp (config := { maxSteps := 400000 }) only [go_sem, ↓reduceIte, reduceCtorEq, Nat.reduceEqDiff, Nat.reduceAdd, Nat.reduceLT, Nat.reduceLeDiff, Nat.reduceSub, Int.reduceToNat, Int.reduceLE, Int.reduceLT, Int.reduceNeg, Int.reduceBEq, Int.reduceBNe, Nat.reduceMul, Int.reduceAdd, Int.reduceMul, Int.reduceSub, Int.reduceEq, Int.reduceNe]
    refine WB_split (fun hb => ?_) (fun hb => ?_)
    · have hij : i < j := by simpa using hb
      have hw : IntKind.i64.wrap ((i : Int) + (j : Int)) = ((i : Int) + (j : Int)) := wrap_small (by omega) (by simp [room]; omega)
      have hh := shr_half i j (by omega)
      have hp2 : (2 : Int) ^ min 1 64 = 2 := rfl
      obtain ⟨g, first, cap, rfl, hc⟩ := hf ((i + j) / 2) (by omega)
      simp (config := { maxSteps := 400000 }) only [hw, intShift, IntKind.bits, hp2, hh, go_sem, ↓reduceIte, reduceCtorEq, Nat.reduceEqDiff, Nat.reduceAdd, Nat.reduceLT, Nat.reduceLeDiff, Nat.reduceSub, Int.reduceToNat, Int.reduceLE, Int.reduceLT, Int.reduceNeg, Int.reduceBEq, Int.reduceBNe, Nat.reduceMul, Int.reduceAdd, Int.reduceMul, Int.reduceSub, Int.reduceEq, Int.reduceNe]
      refine WF_pure hc (by simp) ?_
      simp (config := { maxSteps := 400000 }) only [go_sem, ↓reduceIte, reduceCtorEq, Nat.reduceEqDiff, Nat.reduceAdd, Nat.reduceLT, Nat.reduceLeDiff, Nat.reduceSub, Int.reduceToNat, Int.reduceLE, Int.reduceLT, Int.reduceNeg, Int.reduceBEq, Int.reduceBNe, Nat.reduceMul, Int.reduceAdd, Int.reduceMul, Int.reduceSub, Int.reduceEq, Int.reduceNe]
      cases hpv : p ((i + j) / 2)
      · simp (config := { maxSteps := 400000 }) only [go_sem, ↓reduceIte, reduceCtorEq, Nat.reduceEqDiff, Nat.reduceAdd, Nat.reduceLT, Nat.reduceLeDiff, Nat.reduceSub, Int.reduceToNat, Int.reduceLE, Int.reduceLT, Int.reduceNeg, Int.reduceBEq, Int.reduceBNe, Nat.reduceMul, Int.reduceAdd, Int.reduceMul, Int.reduceSub, Int.reduceEq, Int.reduceNe]
        have hlt : ¬ (r ≤ (i + j) / 2) := fun h => by rw [h2 _ h (by omega)] at hpv; cases hpv
        refine WQ_headA ((i + j) / 2 + 1, j) ⟨by omega, g2, g3⟩ (by dsimp only; omega) ?_
        have hnx : IntKind.i64.wrap ((((i + j) / 2 : Nat) : Int) + 1) = (((i + j) / 2 + 1 : Nat) : Int) := wrap_add (by omega) (by simp [room]; omega) (by omega)
        simp (config := { maxSteps := 400000 }) only [hnx, go_sem, ↓reduceIte, reduceCtorEq, Nat.reduceEqDiff, Nat.reduceAdd, Nat.reduceLT, Nat.reduceLeDiff, Nat.reduceSub, Int.reduceToNat, Int.reduceLE, Int.reduceLT, Int.reduceNeg, Int.reduceBEq, Int.reduceBNe, Nat.reduceMul, Int.reduceAdd, Int.reduceMul, Int.reduceSub, Int.reduceEq, Int.reduceNe]
      · simp (config := { maxSteps := 400000 }) only [go_sem, ↓reduceIte, reduceCtorEq, Nat.reduceEqDiff, Nat.reduceAdd, Nat.reduceLT, Nat.reduceLeDiff, Nat.reduceSub, Int.reduceToNat, Int.reduceLE, Int.reduceLT, Int.reduceNeg, Int.reduceBEq, Int.reduceBNe, Nat.reduceMul, Int.reduceAdd, Int.reduceMul, Int.reduceSub, Int.reduceEq, Int.reduceNe]
        have hlt : r ≤ (i + j) / 2 := by
          rcases Nat.lt_or_ge ((i + j) / 2) r with h | h
          · rw [h1 _ h] at hpv; cases hpv
          · exact h
        refine WQ_headA (i, (i + j) / 2) ⟨g1, hlt, by omega⟩ (by dsimp only; omega) ?_
        simp (config := { maxSteps := 400000 }) only [go_sem, ↓reduceIte, reduceCtorEq, Nat.reduceEqDiff, Nat.reduceAdd, Nat.reduceLT, Nat.reduceLeDiff, Nat.reduceSub, Int.reduceToNat, Int.reduceLE, Int.reduceLT, Int.reduceNeg, Int.reduceBEq, Int.reduceBNe, Nat.reduceMul, Int.reduceAdd, Int.reduceMul, Int.reduceSub, Int.reduceEq, Int.reduceNe]
    · have hij : ¬ (i < j) := by simpa using hb
      have : i = r := by omega
      subst this
      simp (config := { maxSteps := 400000 }) only [go_sem, ↓reduceIte, reduceCtorEq, Nat.reduceEqDiff, Nat.reduceAdd, Nat.reduceLT, Nat.reduceLeDiff, Nat.reduceSub, Int.reduceToNat, Int.reduceLE, Int.reduceLT, Int.reduceNeg, Int.reduceBEq, Int.reduceBNe, Nat.reduceMul, Int.reduceAdd, Int.reduceMul, Int.reduceSub, Int.reduceEq, Int.reduceNe]
end Abs
end Go.Proofs.Ythekmbikolpmlaa
