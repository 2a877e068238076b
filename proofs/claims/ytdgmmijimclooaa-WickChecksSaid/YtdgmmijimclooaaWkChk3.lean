/-
  CONTRACTS: Check of the reference comes to 'checkSpec'.
-/
import Derived.Test.YtdgmmijimclooaaWkChk2
namespace Go.Proofs.Ytdgmmijimclooaa
namespace Abs
set_option linter.unusedSimpArgs false
set_option maxRecDepth 4000

theorem gSpan_inS (s : Span) (a b : Int) : gSpan s.lo s.hi a b = if inS s a b = true then (if turnedS s = true then 2 else 0) else 7 := by
  unfold gSpan inS turnedS
  cases gIn s.lo a b <;> cases gIn s.hi a b <;> simp
def spansGo : List (Span × Int × Int) → Int → Int
  | [], w => w
  | q :: r, w => spansGo r (if (gSpan q.1.lo q.1.hi q.2.1 q.2.2 == 7 || w == 0) = true then gSpan q.1.lo q.1.hi q.2.1 q.2.2 else w)
theorem cSpans (l : List (Span × Int × Int)) (b1 b2 b3 : Bool) (hl : l.length < 1000000) :
    PCall Try.prog 51 [.slice 2 (l.map fun q => q.1.pv) b1, .slice 1 (l.map fun q => intPV q.2.1) b2, .slice 1 (l.map fun q => intPV q.2.2) b3] (.int .i64 (spansGo l 0)) := by
  refine pcall_of_wp draws (fn := Try.f51) (n := 37) (rs := [.tmp 6]) (by kernel_rfl) rfl rfl rfl ok51 (Nat.le_of_ble_eq_true rfl) ?_
  simp (maxSteps := 400000) only [go_sem, ↓reduceIte, reduceCtorEq, Nat.reduceEqDiff, Nat.reduceAdd, Nat.reduceLT, Nat.reduceLeDiff, Nat.reduceSub, Int.reduceToNat, Int.reduceLE, Int.reduceLT, Int.reduceNeg, Int.reduceBEq, Int.reduceBNe, Nat.reduceMul, Int.reduceAdd, Int.reduceMul, Int.reduceSub, Int.reduceEq, Int.reduceNe]
  refine W_loopH [0, 1, 2] (σ := List (Span × Int × Int) × List (Span × Int × Int) × Int) (fun q => l = q.1 ++ q.2.1 ∧ spansGo l 0 = spansGo q.2.1 q.2.2) (fun q => q.2.1.length) (fun q => [(7, .p (.int .i64 q.2.2)), (8, .p (.int .i64 q.1.length))]) ([], l, 0) ⟨rfl, rfl⟩ ?_ ?_
  · simp (maxSteps := 400000) only [go_sem, ↓reduceIte, reduceCtorEq, Nat.reduceEqDiff, Nat.reduceAdd, Nat.reduceLT, Nat.reduceLeDiff, Nat.reduceSub, Int.reduceToNat, Int.reduceLE, Int.reduceLT, Int.reduceNeg, Int.reduceBEq, Int.reduceBNe, Nat.reduceMul, Int.reduceAdd, Int.reduceMul, Int.reduceSub, Int.reduceEq, Int.reduceNe] <;> simp
  rintro ⟨done, rest, w⟩ ⟨e1, e2⟩
  dsimp only at e1 e2
  cases rest with
  | nil =>
    have hlt : ¬ ((done.length : Int) < (l.length : Int)) := by rw [e1]; simp
    simp (maxSteps := 400000) only [hlt, decide_false, go_sem, ↓reduceIte, reduceCtorEq, Nat.reduceEqDiff, Nat.reduceAdd, Nat.reduceLT, Nat.reduceLeDiff, Nat.reduceSub, Int.reduceToNat, Int.reduceLE, Int.reduceLT, Int.reduceNeg, Int.reduceBEq, Int.reduceBNe, Nat.reduceMul, Int.reduceAdd, Int.reduceMul, Int.reduceSub, Int.reduceEq, Int.reduceNe]
    rw [e2]; rfl
  | cons x r =>
    obtain ⟨hx, hlt⟩ := list_at e1
    have hnx : IntKind.i64.wrap ((done.length : Int) + 1) = (((done ++ [x]).length : Nat) : Int) := wrap_add (by omega) (by simp [room]; omega) (by simp)
    rw [spansGo] at e2
    simp (maxSteps := 400000) only [hlt, decide_true, hx, go_sem, ↓reduceIte, reduceCtorEq, Nat.reduceEqDiff, Nat.reduceAdd, Nat.reduceLT, Nat.reduceLeDiff, Nat.reduceSub, Int.reduceToNat, Int.reduceLE, Int.reduceLT, Int.reduceNeg, Int.reduceBEq, Int.reduceBNe, Nat.reduceMul, Int.reduceAdd, Int.reduceMul, Int.reduceSub, Int.reduceEq, Int.reduceNe]
    refine WDQ_pure (cSpan _ _ _ _) rfl ?_
    simp (maxSteps := 400000) only [go_sem, ↓reduceIte, reduceCtorEq, Nat.reduceEqDiff, Nat.reduceAdd, Nat.reduceLT, Nat.reduceLeDiff, Nat.reduceSub, Int.reduceToNat, Int.reduceLE, Int.reduceLT, Int.reduceNeg, Int.reduceBEq, Int.reduceBNe, Nat.reduceMul, Int.reduceAdd, Int.reduceMul, Int.reduceSub, Int.reduceEq, Int.reduceNe]
    cases h7 : (gSpan x.1.lo x.1.hi x.2.1 x.2.2 == 7)
    · simp (maxSteps := 400000) only [go_sem, ↓reduceIte, reduceCtorEq, Nat.reduceEqDiff, Nat.reduceAdd, Nat.reduceLT, Nat.reduceLeDiff, Nat.reduceSub, Int.reduceToNat, Int.reduceLE, Int.reduceLT, Int.reduceNeg, Int.reduceBEq, Int.reduceBNe, Nat.reduceMul, Int.reduceAdd, Int.reduceMul, Int.reduceSub, Int.reduceEq, Int.reduceNe]
      cases h0 : (w == 0)
      · simp (maxSteps := 400000) only [go_sem, ↓reduceIte, reduceCtorEq, Nat.reduceEqDiff, Nat.reduceAdd, Nat.reduceLT, Nat.reduceLeDiff, Nat.reduceSub, Int.reduceToNat, Int.reduceLE, Int.reduceLT, Int.reduceNeg, Int.reduceBEq, Int.reduceBNe, Nat.reduceMul, Int.reduceAdd, Int.reduceMul, Int.reduceSub, Int.reduceEq, Int.reduceNe]
        refine WQ_headA (done ++ [x], r, w) ⟨by simp [e1], by rw [e2, h7, h0]; rfl⟩ (by simp) ?_
        simp (maxSteps := 400000) only [hnx, go_sem, ↓reduceIte, reduceCtorEq, Nat.reduceEqDiff, Nat.reduceAdd, Nat.reduceLT, Nat.reduceLeDiff, Nat.reduceSub, Int.reduceToNat, Int.reduceLE, Int.reduceLT, Int.reduceNeg, Int.reduceBEq, Int.reduceBNe, Nat.reduceMul, Int.reduceAdd, Int.reduceMul, Int.reduceSub, Int.reduceEq, Int.reduceNe]
      · simp (maxSteps := 400000) only [go_sem, ↓reduceIte, reduceCtorEq, Nat.reduceEqDiff, Nat.reduceAdd, Nat.reduceLT, Nat.reduceLeDiff, Nat.reduceSub, Int.reduceToNat, Int.reduceLE, Int.reduceLT, Int.reduceNeg, Int.reduceBEq, Int.reduceBNe, Nat.reduceMul, Int.reduceAdd, Int.reduceMul, Int.reduceSub, Int.reduceEq, Int.reduceNe]
        refine WQ_headA (done ++ [x], r, gSpan x.1.lo x.1.hi x.2.1 x.2.2) ⟨by simp [e1], by rw [e2, h7, h0]; rfl⟩ (by simp) ?_
        simp (maxSteps := 400000) only [hnx, go_sem, ↓reduceIte, reduceCtorEq, Nat.reduceEqDiff, Nat.reduceAdd, Nat.reduceLT, Nat.reduceLeDiff, Nat.reduceSub, Int.reduceToNat, Int.reduceLE, Int.reduceLT, Int.reduceNeg, Int.reduceBEq, Int.reduceBNe, Nat.reduceMul, Int.reduceAdd, Int.reduceMul, Int.reduceSub, Int.reduceEq, Int.reduceNe]
    · simp (maxSteps := 400000) only [go_sem, ↓reduceIte, reduceCtorEq, Nat.reduceEqDiff, Nat.reduceAdd, Nat.reduceLT, Nat.reduceLeDiff, Nat.reduceSub, Int.reduceToNat, Int.reduceLE, Int.reduceLT, Int.reduceNeg, Int.reduceBEq, Int.reduceBNe, Nat.reduceMul, Int.reduceAdd, Int.reduceMul, Int.reduceSub, Int.reduceEq, Int.reduceNe]
      refine WQ_headA (done ++ [x], r, gSpan x.1.lo x.1.hi x.2.1 x.2.2) ⟨by simp [e1], by rw [e2, h7]; rfl⟩ (by simp) ?_
      simp (maxSteps := 400000) only [hnx, go_sem, ↓reduceIte, reduceCtorEq, Nat.reduceEqDiff, Nat.reduceAdd, Nat.reduceLT, Nat.reduceLeDiff, Nat.reduceSub, Int.reduceToNat, Int.reduceLE, Int.reduceLT, Int.reduceNeg, Int.reduceBEq, Int.reduceBNe, Nat.reduceMul, Int.reduceAdd, Int.reduceMul, Int.reduceSub, Int.reduceEq, Int.reduceNe]
theorem spans2 (a b : Span) (x1 y1 x2 y2 : Int) : spansGo [(a, x1, y1), (b, x2, y2)] 0 = if (inS a x1 y1 && inS b x2 y2) = true then (if (turnedS a || turnedS b) = true then 2 else 0) else 7 := by
  simp only [spansGo, gSpan_inS]
  cases inS a x1 y1 <;> cases inS b x2 y2 <;> cases turnedS a <;> cases turnedS b <;> rfl
theorem spans3 (a b c : Span) (x1 y1 x2 y2 x3 y3 : Int) : spansGo [(a, x1, y1), (b, x2, y2), (c, x3, y3)] 0 =
    if (inS a x1 y1 && (inS b x2 y2 && inS c x3 y3)) = true then (if (turnedS a || (turnedS b || turnedS c)) = true then 2 else 0) else 7 := by
  simp only [spansGo, gSpan_inS]
  cases inS a x1 y1 <;> cases inS b x2 y2 <;> cases inS c x3 y3 <;> cases turnedS a <;> cases turnedS b <;> cases turnedS c <;> rfl

theorem cRefNamedI (s : ByteArray) (l : List ByteArray) (b : Bool) (xs : List PV) (hx : xs = l.map .str) (hl : l.length < 1000000000) : PCall Try.prog 52 [.str s, .slice 1 xs b] (.int .i64 (namedErr l s)) := by
  subst hx; exact cRefNamed s l b hl

theorem cRefCheck (s : Shop) : PCall Try.prog 15 [s.pv] (triple (checkSpec s)) := by
  refine pcall_of_wp draws (fn := Try.f15) (n := 117) (rs := [.tmp 2, .tmp 3, .tmp 4]) (by kernel_rfl) rfl rfl rfl ok15 (Nat.le_of_ble_eq_true rfl) ?_
  simp (maxSteps := 400000) only [go_sem, ↓reduceIte, reduceCtorEq, Nat.reduceEqDiff, Nat.reduceAdd, Nat.reduceLT, Nat.reduceLeDiff, Nat.reduceSub, Int.reduceToNat, Int.reduceLE, Int.reduceLT, Int.reduceNeg, Int.reduceBEq, Int.reduceBNe, Nat.reduceMul, Int.reduceAdd, Int.reduceMul, Int.reduceSub, Int.reduceEq, Int.reduceNe]
  refine WF_pure (cIn1 _ _ _) rfl ?_
  simp (maxSteps := 400000) only [go_sem, ↓reduceIte, reduceCtorEq, Nat.reduceEqDiff, Nat.reduceAdd, Nat.reduceLT, Nat.reduceLeDiff, Nat.reduceSub, Int.reduceToNat, Int.reduceLE, Int.reduceLT, Int.reduceNeg, Int.reduceBEq, Int.reduceBNe, Nat.reduceMul, Int.reduceAdd, Int.reduceMul, Int.reduceSub, Int.reduceEq, Int.reduceNe]
  cases h1 : gIn s.wicks.length 1 12
  · simp (maxSteps := 400000) only [triple, checkSpec, h1, go_sem, ↓reduceIte, reduceCtorEq, Nat.reduceEqDiff, Nat.reduceAdd, Nat.reduceLT, Nat.reduceLeDiff, Nat.reduceSub, Int.reduceToNat, Int.reduceLE, Int.reduceLT, Int.reduceNeg, Int.reduceBEq, Int.reduceBNe, Nat.reduceMul, Int.reduceAdd, Int.reduceMul, Int.reduceSub, Int.reduceEq, Int.reduceNe]
  simp (maxSteps := 400000) only [go_sem, ↓reduceIte, reduceCtorEq, Nat.reduceEqDiff, Nat.reduceAdd, Nat.reduceLT, Nat.reduceLeDiff, Nat.reduceSub, Int.reduceToNat, Int.reduceLE, Int.reduceLT, Int.reduceNeg, Int.reduceBEq, Int.reduceBNe, Nat.reduceMul, Int.reduceAdd, Int.reduceMul, Int.reduceSub, Int.reduceEq, Int.reduceNe]
  refine WF_pure (cIn1 _ _ _) rfl ?_
  simp (maxSteps := 400000) only [go_sem, ↓reduceIte, reduceCtorEq, Nat.reduceEqDiff, Nat.reduceAdd, Nat.reduceLT, Nat.reduceLeDiff, Nat.reduceSub, Int.reduceToNat, Int.reduceLE, Int.reduceLT, Int.reduceNeg, Int.reduceBEq, Int.reduceBNe, Nat.reduceMul, Int.reduceAdd, Int.reduceMul, Int.reduceSub, Int.reduceEq, Int.reduceNe]
  cases h2 : gIn s.waxes.length 1 6
  · simp (maxSteps := 400000) only [triple, checkSpec, h1, h2, go_sem, ↓reduceIte, reduceCtorEq, Nat.reduceEqDiff, Nat.reduceAdd, Nat.reduceLT, Nat.reduceLeDiff, Nat.reduceSub, Int.reduceToNat, Int.reduceLE, Int.reduceLT, Int.reduceNeg, Int.reduceBEq, Int.reduceBNe, Nat.reduceMul, Int.reduceAdd, Int.reduceMul, Int.reduceSub, Int.reduceEq, Int.reduceNe]
  simp (maxSteps := 400000) only [go_sem, ↓reduceIte, reduceCtorEq, Nat.reduceEqDiff, Nat.reduceAdd, Nat.reduceLT, Nat.reduceLeDiff, Nat.reduceSub, Int.reduceToNat, Int.reduceLE, Int.reduceLT, Int.reduceNeg, Int.reduceBEq, Int.reduceBNe, Nat.reduceMul, Int.reduceAdd, Int.reduceMul, Int.reduceSub, Int.reduceEq, Int.reduceNe]
  refine WF_pure (cSpans [(s.flame, 0, 2000), (s.pool, 0, 2000)] true true true (by simp)) rfl ?_
  simp (maxSteps := 400000) only [go_sem, ↓reduceIte, reduceCtorEq, Nat.reduceEqDiff, Nat.reduceAdd, Nat.reduceLT, Nat.reduceLeDiff, Nat.reduceSub, Int.reduceToNat, Int.reduceLE, Int.reduceLT, Int.reduceNeg, Int.reduceBEq, Int.reduceBNe, Nat.reduceMul, Int.reduceAdd, Int.reduceMul, Int.reduceSub, Int.reduceEq, Int.reduceNe]
  rw [spans2]
  cases h3 : (inS s.flame 0 2000 && inS s.pool 0 2000)
  · simp (maxSteps := 400000) only [triple, checkSpec, h1, h2, h3, go_sem, ↓reduceIte, reduceCtorEq, Nat.reduceEqDiff, Nat.reduceAdd, Nat.reduceLT, Nat.reduceLeDiff, Nat.reduceSub, Int.reduceToNat, Int.reduceLE, Int.reduceLT, Int.reduceNeg, Int.reduceBEq, Int.reduceBNe, Nat.reduceMul, Int.reduceAdd, Int.reduceMul, Int.reduceSub, Int.reduceEq, Int.reduceNe]
  cases h4 : (turnedS s.flame || turnedS s.pool)
  rotate_left
  · simp (maxSteps := 400000) only [triple, checkSpec, h1, h2, h3, h4, go_sem, ↓reduceIte, reduceCtorEq, Nat.reduceEqDiff, Nat.reduceAdd, Nat.reduceLT, Nat.reduceLeDiff, Nat.reduceSub, Int.reduceToNat, Int.reduceLE, Int.reduceLT, Int.reduceNeg, Int.reduceBEq, Int.reduceBNe, Nat.reduceMul, Int.reduceAdd, Int.reduceMul, Int.reduceSub, Int.reduceEq, Int.reduceNe]
  have hspec : checkSpec s = checkTail s (firstErr wickErr (·.name) s.wicks []) := by
    simp [checkSpec, h1, h2, h3, h4]
  rw [hspec]
  have hlw : s.wicks.length ≤ 12 := by simp [gIn] at h1; omega
  have hlx : s.waxes.length ≤ 6 := by simp [gIn] at h2; omega
  simp (maxSteps := 400000) only [go_sem, ↓reduceIte, reduceCtorEq, Nat.reduceEqDiff, Nat.reduceAdd, Nat.reduceLT, Nat.reduceLeDiff, Nat.reduceSub, Int.reduceToNat, Int.reduceLE, Int.reduceLT, Int.reduceNeg, Int.reduceBEq, Int.reduceBNe, Nat.reduceMul, Int.reduceAdd, Int.reduceMul, Int.reduceSub, Int.reduceEq, Int.reduceNe]
  refine W_loop_nil 6 1 (by simp (maxSteps := 400000) only [go_sem, ↓reduceIte, reduceCtorEq, Nat.reduceEqDiff, Nat.reduceAdd, Nat.reduceLT, Nat.reduceLeDiff, Nat.reduceSub, Int.reduceToNat, Int.reduceLE, Int.reduceLT, Int.reduceNeg, Int.reduceBEq, Int.reduceBNe, Nat.reduceMul, Int.reduceAdd, Int.reduceMul, Int.reduceSub, Int.reduceEq, Int.reduceNe]) ?_
  simp (maxSteps := 400000) only [go_sem, ↓reduceIte, reduceCtorEq, Nat.reduceEqDiff, Nat.reduceAdd, Nat.reduceLT, Nat.reduceLeDiff, Nat.reduceSub, Int.reduceToNat, Int.reduceLE, Int.reduceLT, Int.reduceNeg, Int.reduceBEq, Int.reduceBNe, Nat.reduceMul, Int.reduceAdd, Int.reduceMul, Int.reduceSub, Int.reduceEq, Int.reduceNe]
  refine W_loopA [1] (σ := List Wick × List Wick) (fun q => s.wicks = q.1 ++ q.2 ∧ firstErr wickErr (·.name) s.wicks [] = firstErr wickErr (·.name) q.2 (q.1.map (·.name))) (fun q => q.2.length)
    (fun q => [(6, .slice 1 q.1.length 0 q.1.length), (7, .p (.int .i64 q.1.length))]) (fun q => [.row 6 [.p s.pv], .row 1 (q.1.map fun x => .p (.str x.name))]) ([], s.wicks) ⟨rfl, rfl⟩ ?_ ?_
  · simp (maxSteps := 400000) only [go_sem, ↓reduceIte, reduceCtorEq, Nat.reduceEqDiff, Nat.reduceAdd, Nat.reduceLT, Nat.reduceLeDiff, Nat.reduceSub, Int.reduceToNat, Int.reduceLE, Int.reduceLT, Int.reduceNeg, Int.reduceBEq, Int.reduceBNe, Nat.reduceMul, Int.reduceAdd, Int.reduceMul, Int.reduceSub, Int.reduceEq, Int.reduceNe] <;> simp
  rintro ⟨done, rest⟩ ⟨e1, e2⟩
  dsimp only at e1 e2
  cases rest with
  | cons x r =>
    obtain ⟨hx, hlt⟩ := list_at e1
    have hln : (done ++ [x]).length ≤ s.wicks.length := by rw [e1]; simp
    have hdl : done.length < 12 := by simp at hln; omega
    have hnx : IntKind.i64.wrap ((done.length : Int) + 1) = (((done ++ [x]).length : Nat) : Int) := wrap_add (by omega) (by simp [room]; omega) (by simp)
    have hrm : done.length + 1 ≤ room := by simp [room]; omega
    have hE : firstErr wickErr (·.name) s.wicks [] = if wickErr (done.map (·.name)) x = 0 then firstErr wickErr (·.name) r ((done ++ [x]).map (·.name)) else some ((done.length : Int), wickErr (done.map (·.name)) x) := by
      rw [e2, firstErr]; simp
    have fin : ∀ e, wickErr (done.map (·.name)) x = e → e ≠ 0 → checkTail s (firstErr wickErr (·.name) s.wicks []) = (2, (done.length : Int), e) := by
      intro e he hne
      rw [hE, he, if_neg hne]; rfl
    simp (maxSteps := 400000) only [hlt, decide_true, hx, go_sem, ↓reduceIte, reduceCtorEq, Nat.reduceEqDiff, Nat.reduceAdd, Nat.reduceLT, Nat.reduceLeDiff, Nat.reduceSub, Int.reduceToNat, Int.reduceLE, Int.reduceLT, Int.reduceNeg, Int.reduceBEq, Int.reduceBNe, Nat.reduceMul, Int.reduceAdd, Int.reduceMul, Int.reduceSub, Int.reduceEq, Int.reduceNe]
    refine WF_frz (cRefNamedI x.name (done.map (·.name)) false (done.map fun x => .str x.name) (by simp) (by simp; omega)) ?_ (.int _ _) ?_
    · simp (maxSteps := 400000) only [go_sem, ↓reduceIte, reduceCtorEq, Nat.reduceEqDiff, Nat.reduceAdd, Nat.reduceLT, Nat.reduceLeDiff, Nat.reduceSub, Int.reduceToNat, Int.reduceLE, Int.reduceLT, Int.reduceNeg, Int.reduceBEq, Int.reduceBNe, Nat.reduceMul, Int.reduceAdd, Int.reduceMul, Int.reduceSub, Int.reduceEq, Int.reduceNe]
    simp (maxSteps := 400000) only [hrm, go_sem, ↓reduceIte, reduceCtorEq, Nat.reduceEqDiff, Nat.reduceAdd, Nat.reduceLT, Nat.reduceLeDiff, Nat.reduceSub, Int.reduceToNat, Int.reduceLE, Int.reduceLT, Int.reduceNeg, Int.reduceBEq, Int.reduceBNe, Nat.reduceMul, Int.reduceAdd, Int.reduceMul, Int.reduceSub, Int.reduceEq, Int.reduceNe]
    cases h5 : (namedErr (done.map (·.name)) x.name == 0)
    · have h5' : namedErr (done.map (·.name)) x.name ≠ 0 := by simpa using h5
      have h5n : (namedErr (done.map (·.name)) x.name != 0) = true := by simp [bne, h5]
      simp (maxSteps := 400000) only [h5, h5n, triple, fin _ (by rw [wickErr, if_neg h5']) h5', go_sem, ↓reduceIte, reduceCtorEq, Nat.reduceEqDiff, Nat.reduceAdd, Nat.reduceLT, Nat.reduceLeDiff, Nat.reduceSub, Int.reduceToNat, Int.reduceLE, Int.reduceLT, Int.reduceNeg, Int.reduceBEq, Int.reduceBNe, Nat.reduceMul, Int.reduceAdd, Int.reduceMul, Int.reduceSub, Int.reduceEq, Int.reduceNe]
    have h5' : namedErr (done.map (·.name)) x.name = 0 := by simpa using h5
    simp (maxSteps := 400000) only [go_sem, ↓reduceIte, reduceCtorEq, Nat.reduceEqDiff, Nat.reduceAdd, Nat.reduceLT, Nat.reduceLeDiff, Nat.reduceSub, Int.reduceToNat, Int.reduceLE, Int.reduceLT, Int.reduceNeg, Int.reduceBEq, Int.reduceBNe, Nat.reduceMul, Int.reduceAdd, Int.reduceMul, Int.reduceSub, Int.reduceEq, Int.reduceNe]
    refine WF_pure (cIn1 _ _ _) rfl ?_
    simp (maxSteps := 400000) only [go_sem, ↓reduceIte, reduceCtorEq, Nat.reduceEqDiff, Nat.reduceAdd, Nat.reduceLT, Nat.reduceLeDiff, Nat.reduceSub, Int.reduceToNat, Int.reduceLE, Int.reduceLT, Int.reduceNeg, Int.reduceBEq, Int.reduceBNe, Nat.reduceMul, Int.reduceAdd, Int.reduceMul, Int.reduceSub, Int.reduceEq, Int.reduceNe]
    cases h6 : gIn x.threads 1 100
    · simp (maxSteps := 400000) only [triple, fin 7 (by simp [wickErr, h5', h6]) (by decide), go_sem, ↓reduceIte, reduceCtorEq, Nat.reduceEqDiff, Nat.reduceAdd, Nat.reduceLT, Nat.reduceLeDiff, Nat.reduceSub, Int.reduceToNat, Int.reduceLE, Int.reduceLT, Int.reduceNeg, Int.reduceBEq, Int.reduceBNe, Nat.reduceMul, Int.reduceAdd, Int.reduceMul, Int.reduceSub, Int.reduceEq, Int.reduceNe]
    simp (maxSteps := 400000) only [h5, go_sem, ↓reduceIte, reduceCtorEq, Nat.reduceEqDiff, Nat.reduceAdd, Nat.reduceLT, Nat.reduceLeDiff, Nat.reduceSub, Int.reduceToNat, Int.reduceLE, Int.reduceLT, Int.reduceNeg, Int.reduceBEq, Int.reduceBNe, Nat.reduceMul, Int.reduceAdd, Int.reduceMul, Int.reduceSub, Int.reduceEq, Int.reduceNe]
    refine WF_pure (cSpan _ _ _ _) rfl ?_
    simp (maxSteps := 400000) only [go_sem, ↓reduceIte, reduceCtorEq, Nat.reduceEqDiff, Nat.reduceAdd, Nat.reduceLT, Nat.reduceLeDiff, Nat.reduceSub, Int.reduceToNat, Int.reduceLE, Int.reduceLT, Int.reduceNeg, Int.reduceBEq, Int.reduceBNe, Nat.reduceMul, Int.reduceAdd, Int.reduceMul, Int.reduceSub, Int.reduceEq, Int.reduceNe]
    have hw : wickErr (done.map (·.name)) x = gSpan x.pull.lo x.pull.hi 1 1000 := by rw [gSpan_inS]; simp [wickErr, h5', h6]
    cases h7 : (gSpan x.pull.lo x.pull.hi 1 1000 != 0)
    · simp (maxSteps := 400000) only [go_sem, ↓reduceIte, reduceCtorEq, Nat.reduceEqDiff, Nat.reduceAdd, Nat.reduceLT, Nat.reduceLeDiff, Nat.reduceSub, Int.reduceToNat, Int.reduceLE, Int.reduceLT, Int.reduceNeg, Int.reduceBEq, Int.reduceBNe, Nat.reduceMul, Int.reduceAdd, Int.reduceMul, Int.reduceSub, Int.reduceEq, Int.reduceNe]
      refine WQ_headA (done ++ [x], r) ⟨by simp [e1], ?_⟩ (by simp) ?_
      · rw [hE, if_pos]
        rw [hw]; simpa using h7
      · simp (maxSteps := 400000) only [hnx, List.length_append, List.map_append, go_sem, ↓reduceIte, reduceCtorEq, Nat.reduceEqDiff, Nat.reduceAdd, Nat.reduceLT, Nat.reduceLeDiff, Nat.reduceSub, Int.reduceToNat, Int.reduceLE, Int.reduceLT, Int.reduceNeg, Int.reduceBEq, Int.reduceBNe, Nat.reduceMul, Int.reduceAdd, Int.reduceMul, Int.reduceSub, Int.reduceEq, Int.reduceNe]
    · simp (maxSteps := 400000) only [triple, fin _ hw (by simpa using h7), go_sem, ↓reduceIte, reduceCtorEq, Nat.reduceEqDiff, Nat.reduceAdd, Nat.reduceLT, Nat.reduceLeDiff, Nat.reduceSub, Int.reduceToNat, Int.reduceLE, Int.reduceLT, Int.reduceNeg, Int.reduceBEq, Int.reduceBNe, Nat.reduceMul, Int.reduceAdd, Int.reduceMul, Int.reduceSub, Int.reduceEq, Int.reduceNe]
  | nil =>
    have hlt : ¬ ((done.length : Int) < (s.wicks.length : Int)) := by rw [e1]; simp
    have hT : checkTail s (firstErr wickErr (·.name) s.wicks []) = checkTail s none := by rw [e2]; rfl
    have hdone : done = s.wicks := by rw [e1]; simp
    rw [hT]
    simp (maxSteps := 400000) only [hlt, decide_false, go_sem, ↓reduceIte, reduceCtorEq, Nat.reduceEqDiff, Nat.reduceAdd, Nat.reduceLT, Nat.reduceLeDiff, Nat.reduceSub, Int.reduceToNat, Int.reduceLE, Int.reduceLT, Int.reduceNeg, Int.reduceBEq, Int.reduceBNe, Nat.reduceMul, Int.reduceAdd, Int.reduceMul, Int.reduceSub, Int.reduceEq, Int.reduceNe]
    refine W_loop_nil 6 1 (by simp (maxSteps := 400000) only [go_sem, ↓reduceIte, reduceCtorEq, Nat.reduceEqDiff, Nat.reduceAdd, Nat.reduceLT, Nat.reduceLeDiff, Nat.reduceSub, Int.reduceToNat, Int.reduceLE, Int.reduceLT, Int.reduceNeg, Int.reduceBEq, Int.reduceBNe, Nat.reduceMul, Int.reduceAdd, Int.reduceMul, Int.reduceSub, Int.reduceEq, Int.reduceNe]) ?_
    simp (maxSteps := 400000) only [go_sem, ↓reduceIte, reduceCtorEq, Nat.reduceEqDiff, Nat.reduceAdd, Nat.reduceLT, Nat.reduceLeDiff, Nat.reduceSub, Int.reduceToNat, Int.reduceLE, Int.reduceLT, Int.reduceNeg, Int.reduceBEq, Int.reduceBNe, Nat.reduceMul, Int.reduceAdd, Int.reduceMul, Int.reduceSub, Int.reduceEq, Int.reduceNe]
    refine W_loopA [1] (σ := List Wax × List Wax) (fun q => s.waxes = q.1 ++ q.2 ∧ firstErr waxErr (·.name) s.waxes [] = firstErr waxErr (·.name) q.2 (q.1.map (·.name))) (fun q => q.2.length)
      (fun q => [(6, .slice 2 q.1.length 0 q.1.length), (9, .p (.int .i64 q.1.length))]) (fun q => [.row 6 [.p s.pv], .row 1 (done.map fun x => .p (.str x.name)), .row 1 (q.1.map fun x => .p (.str x.name))]) ([], s.waxes) ⟨rfl, rfl⟩ ?_ ?_
    · simp (maxSteps := 400000) only [go_sem, ↓reduceIte, reduceCtorEq, Nat.reduceEqDiff, Nat.reduceAdd, Nat.reduceLT, Nat.reduceLeDiff, Nat.reduceSub, Int.reduceToNat, Int.reduceLE, Int.reduceLT, Int.reduceNeg, Int.reduceBEq, Int.reduceBNe, Nat.reduceMul, Int.reduceAdd, Int.reduceMul, Int.reduceSub, Int.reduceEq, Int.reduceNe] <;> simp
    generalize done = dw
    clear e1 e2 hlt hT hdone
    rintro ⟨done, rest⟩ ⟨e1, e2⟩
    dsimp only at e1 e2
    cases rest with
    | cons x r =>
      obtain ⟨hx, hlt⟩ := list_at e1
      have hln : (done ++ [x]).length ≤ s.waxes.length := by rw [e1]; simp
      have hdl : done.length < 12 := by simp at hln; omega
      have hnx : IntKind.i64.wrap ((done.length : Int) + 1) = (((done ++ [x]).length : Nat) : Int) := wrap_add (by omega) (by simp [room]; omega) (by simp)
      have hrm : done.length + 1 ≤ room := by simp [room]; omega
      have hE : firstErr waxErr (·.name) s.waxes [] = if waxErr (done.map (·.name)) x = 0 then firstErr waxErr (·.name) r ((done ++ [x]).map (·.name)) else some ((done.length : Int), waxErr (done.map (·.name)) x) := by
        rw [e2, firstErr]; simp
      have fin : ∀ e, waxErr (done.map (·.name)) x = e → e ≠ 0 → checkTail s none = (3, (done.length : Int), e) := by
        intro e he hne
        simp only [checkTail]
        rw [hE, he, if_neg hne]
      simp (maxSteps := 400000) only [hlt, decide_true, hx, go_sem, ↓reduceIte, reduceCtorEq, Nat.reduceEqDiff, Nat.reduceAdd, Nat.reduceLT, Nat.reduceLeDiff, Nat.reduceSub, Int.reduceToNat, Int.reduceLE, Int.reduceLT, Int.reduceNeg, Int.reduceBEq, Int.reduceBNe, Nat.reduceMul, Int.reduceAdd, Int.reduceMul, Int.reduceSub, Int.reduceEq, Int.reduceNe]
      refine WF_frz (cRefNamedI x.name (done.map (·.name)) false (done.map fun x => .str x.name) (by simp) (by simp; omega)) ?_ (.int _ _) ?_
      · simp (maxSteps := 400000) only [go_sem, ↓reduceIte, reduceCtorEq, Nat.reduceEqDiff, Nat.reduceAdd, Nat.reduceLT, Nat.reduceLeDiff, Nat.reduceSub, Int.reduceToNat, Int.reduceLE, Int.reduceLT, Int.reduceNeg, Int.reduceBEq, Int.reduceBNe, Nat.reduceMul, Int.reduceAdd, Int.reduceMul, Int.reduceSub, Int.reduceEq, Int.reduceNe]
      simp (maxSteps := 400000) only [hrm, go_sem, ↓reduceIte, reduceCtorEq, Nat.reduceEqDiff, Nat.reduceAdd, Nat.reduceLT, Nat.reduceLeDiff, Nat.reduceSub, Int.reduceToNat, Int.reduceLE, Int.reduceLT, Int.reduceNeg, Int.reduceBEq, Int.reduceBNe, Nat.reduceMul, Int.reduceAdd, Int.reduceMul, Int.reduceSub, Int.reduceEq, Int.reduceNe]
      cases h5 : (namedErr (done.map (·.name)) x.name == 0)
      · have h5' : namedErr (done.map (·.name)) x.name ≠ 0 := by simpa using h5
        have h5n : (namedErr (done.map (·.name)) x.name != 0) = true := by simp [bne, h5]
        simp (maxSteps := 400000) only [h5, h5n, triple, fin _ (by rw [waxErr, if_neg h5']) h5', go_sem, ↓reduceIte, reduceCtorEq, Nat.reduceEqDiff, Nat.reduceAdd, Nat.reduceLT, Nat.reduceLeDiff, Nat.reduceSub, Int.reduceToNat, Int.reduceLE, Int.reduceLT, Int.reduceNeg, Int.reduceBEq, Int.reduceBNe, Nat.reduceMul, Int.reduceAdd, Int.reduceMul, Int.reduceSub, Int.reduceEq, Int.reduceNe]
      have h5' : namedErr (done.map (·.name)) x.name = 0 := by simpa using h5
      simp (maxSteps := 400000) only [go_sem, ↓reduceIte, reduceCtorEq, Nat.reduceEqDiff, Nat.reduceAdd, Nat.reduceLT, Nat.reduceLeDiff, Nat.reduceSub, Int.reduceToNat, Int.reduceLE, Int.reduceLT, Int.reduceNeg, Int.reduceBEq, Int.reduceBNe, Nat.reduceMul, Int.reduceAdd, Int.reduceMul, Int.reduceSub, Int.reduceEq, Int.reduceNe]
      refine WF_pure (cIn1 _ _ _) rfl ?_
      simp (maxSteps := 400000) only [go_sem, ↓reduceIte, reduceCtorEq, Nat.reduceEqDiff, Nat.reduceAdd, Nat.reduceLT, Nat.reduceLeDiff, Nat.reduceSub, Int.reduceToNat, Int.reduceLE, Int.reduceLT, Int.reduceNeg, Int.reduceBEq, Int.reduceBNe, Nat.reduceMul, Int.reduceAdd, Int.reduceMul, Int.reduceSub, Int.reduceEq, Int.reduceNe]
      cases h6 : gIn x.chill 0 50
      · simp (maxSteps := 400000) only [triple, fin 7 (by simp [waxErr, h5', h6]) (by decide), go_sem, ↓reduceIte, reduceCtorEq, Nat.reduceEqDiff, Nat.reduceAdd, Nat.reduceLT, Nat.reduceLeDiff, Nat.reduceSub, Int.reduceToNat, Int.reduceLE, Int.reduceLT, Int.reduceNeg, Int.reduceBEq, Int.reduceBNe, Nat.reduceMul, Int.reduceAdd, Int.reduceMul, Int.reduceSub, Int.reduceEq, Int.reduceNe]
      simp (maxSteps := 400000) only [h5, go_sem, ↓reduceIte, reduceCtorEq, Nat.reduceEqDiff, Nat.reduceAdd, Nat.reduceLT, Nat.reduceLeDiff, Nat.reduceSub, Int.reduceToNat, Int.reduceLE, Int.reduceLT, Int.reduceNeg, Int.reduceBEq, Int.reduceBNe, Nat.reduceMul, Int.reduceAdd, Int.reduceMul, Int.reduceSub, Int.reduceEq, Int.reduceNe]
      refine WF_pure (cSpans [(x.flow, 1, 300), (x.rise, 1, 1000), (x.spread, 1, 2000)] true true true (by simp)) rfl ?_
      simp (maxSteps := 400000) only [go_sem, ↓reduceIte, reduceCtorEq, Nat.reduceEqDiff, Nat.reduceAdd, Nat.reduceLT, Nat.reduceLeDiff, Nat.reduceSub, Int.reduceToNat, Int.reduceLE, Int.reduceLT, Int.reduceNeg, Int.reduceBEq, Int.reduceBNe, Nat.reduceMul, Int.reduceAdd, Int.reduceMul, Int.reduceSub, Int.reduceEq, Int.reduceNe]
      have hw : waxErr (done.map (·.name)) x = spansGo [(x.flow, 1, 300), (x.rise, 1, 1000), (x.spread, 1, 2000)] 0 := by rw [spans3]; simp [waxErr, h5', h6]
      cases h7 : (spansGo [(x.flow, 1, 300), (x.rise, 1, 1000), (x.spread, 1, 2000)] 0 != 0)
      · simp (maxSteps := 400000) only [go_sem, ↓reduceIte, reduceCtorEq, Nat.reduceEqDiff, Nat.reduceAdd, Nat.reduceLT, Nat.reduceLeDiff, Nat.reduceSub, Int.reduceToNat, Int.reduceLE, Int.reduceLT, Int.reduceNeg, Int.reduceBEq, Int.reduceBNe, Nat.reduceMul, Int.reduceAdd, Int.reduceMul, Int.reduceSub, Int.reduceEq, Int.reduceNe]
        refine WQ_headA (done ++ [x], r) ⟨by simp [e1], ?_⟩ (by simp) ?_
        · rw [hE, if_pos]
          rw [hw]; simpa using h7
        · simp (maxSteps := 400000) only [hnx, List.length_append, List.map_append, go_sem, ↓reduceIte, reduceCtorEq, Nat.reduceEqDiff, Nat.reduceAdd, Nat.reduceLT, Nat.reduceLeDiff, Nat.reduceSub, Int.reduceToNat, Int.reduceLE, Int.reduceLT, Int.reduceNeg, Int.reduceBEq, Int.reduceBNe, Nat.reduceMul, Int.reduceAdd, Int.reduceMul, Int.reduceSub, Int.reduceEq, Int.reduceNe]
      · simp (maxSteps := 400000) only [triple, fin _ hw (by simpa using h7), go_sem, ↓reduceIte, reduceCtorEq, Nat.reduceEqDiff, Nat.reduceAdd, Nat.reduceLT, Nat.reduceLeDiff, Nat.reduceSub, Int.reduceToNat, Int.reduceLE, Int.reduceLT, Int.reduceNeg, Int.reduceBEq, Int.reduceBNe, Nat.reduceMul, Int.reduceAdd, Int.reduceMul, Int.reduceSub, Int.reduceEq, Int.reduceNe]
    | nil =>
      have hlt : ¬ ((done.length : Int) < (s.waxes.length : Int)) := by rw [e1]; simp
      simp (maxSteps := 400000) only [hlt, decide_false, go_sem, ↓reduceIte, reduceCtorEq, Nat.reduceEqDiff, Nat.reduceAdd, Nat.reduceLT, Nat.reduceLeDiff, Nat.reduceSub, Int.reduceToNat, Int.reduceLE, Int.reduceLT, Int.reduceNeg, Int.reduceBEq, Int.reduceBNe, Nat.reduceMul, Int.reduceAdd, Int.reduceMul, Int.reduceSub, Int.reduceEq, Int.reduceNe]
      have hT : checkTail s none = (0, 0, 0) := by
        simp only [checkTail]
        rw [e2]; rfl
      simp (maxSteps := 400000) only [triple, hT, go_sem, ↓reduceIte, reduceCtorEq, Nat.reduceEqDiff, Nat.reduceAdd, Nat.reduceLT, Nat.reduceLeDiff, Nat.reduceSub, Int.reduceToNat, Int.reduceLE, Int.reduceLT, Int.reduceNeg, Int.reduceBEq, Int.reduceBNe, Nat.reduceMul, Int.reduceAdd, Int.reduceMul, Int.reduceSub, Int.reduceEq, Int.reduceNe]

end Abs
end Go.Proofs.Ytdgmmijimclooaa
