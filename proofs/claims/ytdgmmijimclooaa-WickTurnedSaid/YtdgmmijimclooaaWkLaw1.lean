/-
  CONTRACTS OF THE LAWS that compare: Check, At, Burn, Minutes, Faults, Suits, Thinnest, Sizes; the examples.
-/
import Derived.Test.YtdgmmijimclooaaWkLaw0
namespace Go.Proofs.Ytdgmmijimclooaa
namespace Abs
set_option linter.unusedSimpArgs false
set_option maxRecDepth 4000

theorem site_any (s : Shop) (k : Int) (c : Candle) : ∃ w x, askErr s [k] c = 0 → Site s c x ∧ SiteK s k w := by
  by_cases h : askErr s [k] c = 0
  · obtain ⟨w, x, hh⟩ := site_of h
    exact ⟨w, x, fun _ => hh⟩
  · exact ⟨midX, waxX, fun h' => absurd h' h⟩
theorem site_any0 (s : Shop) (c : Candle) : ∃ x, askErr s [] c = 0 → Site s c x := by
  by_cases h : askErr s [] c = 0
  · obtain ⟨x, hh⟩ := siteC_of h
    exact ⟨x, fun _ => hh⟩
  · exact ⟨waxX, fun h' => absurd h' h⟩

theorem lChecks (s : Shop) : PCall Try.prog 3 [s.pv] (.bool true) := by
  refine pcall_of_wp draws (fn := Try.f3) (n := 37) (rs := [.tmp 2]) (by kernel_rfl) rfl rfl rfl ok3 (Nat.le_of_ble_eq_true rfl) ?_
  simp (config := { maxSteps := 400000 }) only [go_sem, ↓reduceIte, reduceCtorEq, Nat.reduceEqDiff, Nat.reduceAdd, Nat.reduceLT, Nat.reduceLeDiff, Nat.reduceSub, Int.reduceToNat, Int.reduceLE, Int.reduceLT, Int.reduceNeg, Int.reduceBEq, Int.reduceBNe, Nat.reduceMul, Int.reduceAdd, Int.reduceMul, Int.reduceSub, Int.reduceEq, Int.reduceNe]
  refine WF_pure (cCheck s) rfl ?_
  simp (config := { maxSteps := 400000 }) only [triple, go_sem, ↓reduceIte, reduceCtorEq, Nat.reduceEqDiff, Nat.reduceAdd, Nat.reduceLT, Nat.reduceLeDiff, Nat.reduceSub, Int.reduceToNat, Int.reduceLE, Int.reduceLT, Int.reduceNeg, Int.reduceBEq, Int.reduceBNe, Nat.reduceMul, Int.reduceAdd, Int.reduceMul, Int.reduceSub, Int.reduceEq, Int.reduceNe]
  refine WF_pure (cRefCheck s) rfl ?_
  simp (config := { maxSteps := 400000 }) only [triple, beq_self_eq_true, go_sem, ↓reduceIte, reduceCtorEq, Nat.reduceEqDiff, Nat.reduceAdd, Nat.reduceLT, Nat.reduceLeDiff, Nat.reduceSub, Int.reduceToNat, Int.reduceLE, Int.reduceLT, Int.reduceNeg, Int.reduceBEq, Int.reduceBNe, Nat.reduceMul, Int.reduceAdd, Int.reduceMul, Int.reduceSub, Int.reduceEq, Int.reduceNe]
  refine WF_pure cAwake rfl ?_
  simp (config := { maxSteps := 400000 }) only [go_sem, ↓reduceIte, reduceCtorEq, Nat.reduceEqDiff, Nat.reduceAdd, Nat.reduceLT, Nat.reduceLeDiff, Nat.reduceSub, Int.reduceToNat, Int.reduceLE, Int.reduceLT, Int.reduceNeg, Int.reduceBEq, Int.reduceBNe, Nat.reduceMul, Int.reduceAdd, Int.reduceMul, Int.reduceSub, Int.reduceEq, Int.reduceNe]

structure LitX where
  wick : Int
  candle : Candle
  truth : Truth
  grams : Int
def LitX.pv (x : LitX) : PV := .agg [.int .i64 x.wick, .int .i64 x.candle.wax, .int .i64 x.candle.diameter, .int .i64 x.candle.draught, .int .i64 x.candle.cold.lo, .int .i64 x.candle.cold.hi,
  .int .i64 x.truth.pull, .int .i64 x.truth.flow, .int .i64 x.truth.rise, .int .i64 x.truth.spread, .int .i64 x.truth.draught, .int .i64 x.truth.cold, .int .i64 x.grams]
theorem lBurns (s : Shop) (y : LitX) : PCall Try.prog 4 [s.pv, y.pv] (.bool true) := by
  obtain ⟨w, x, h⟩ := site_any s y.wick y.candle
  have a1 := cWickAt s y.wick y.candle y.truth w x h
  have a2 := cRefAt s y.wick y.candle y.truth w x h
  have b1 := cWickBurn s y.wick y.candle w x h
  have b2 := cRefBurn s y.wick y.candle w x h
  have m1 := cWickMinutes s y.wick y.candle y.grams w x h
  have m2 := cRefMinutes s y.wick y.candle y.grams w x h
  generalize atSpec s y.wick y.candle y.truth w x = a at a1 a2
  generalize burnSpec s y.wick y.candle w x = b at b1 b2
  generalize minSpec s y.wick y.candle y.grams w x = m at m1 m2
  refine pcall_of_wp draws (fn := Try.f4) (n := 111) (rs := [.tmp 4]) (by kernel_rfl) rfl rfl rfl ok4 (Nat.le_of_ble_eq_true rfl) ?_
  simp (config := { maxSteps := 400000 }) only [LitX.pv, go_sem, ↓reduceIte, reduceCtorEq, Nat.reduceEqDiff, Nat.reduceAdd, Nat.reduceLT, Nat.reduceLeDiff, Nat.reduceSub, Int.reduceToNat, Int.reduceLE, Int.reduceLT, Int.reduceNeg, Int.reduceBEq, Int.reduceBNe, Nat.reduceMul, Int.reduceAdd, Int.reduceMul, Int.reduceSub, Int.reduceEq, Int.reduceNe]
  refine WF_pure a1 rfl ?_
  simp (config := { maxSteps := 400000 }) only [go_sem, ↓reduceIte, reduceCtorEq, Nat.reduceEqDiff, Nat.reduceAdd, Nat.reduceLT, Nat.reduceLeDiff, Nat.reduceSub, Int.reduceToNat, Int.reduceLE, Int.reduceLT, Int.reduceNeg, Int.reduceBEq, Int.reduceBNe, Nat.reduceMul, Int.reduceAdd, Int.reduceMul, Int.reduceSub, Int.reduceEq, Int.reduceNe]
  refine WF_pure a2 rfl ?_
  simp (config := { maxSteps := 400000 }) only [bne_self_eq_false, beq_self_eq_true, go_sem, ↓reduceIte, reduceCtorEq, Nat.reduceEqDiff, Nat.reduceAdd, Nat.reduceLT, Nat.reduceLeDiff, Nat.reduceSub, Int.reduceToNat, Int.reduceLE, Int.reduceLT, Int.reduceNeg, Int.reduceBEq, Int.reduceBNe, Nat.reduceMul, Int.reduceAdd, Int.reduceMul, Int.reduceSub, Int.reduceEq, Int.reduceNe]
  refine WF_pure b1 rfl ?_
  simp (config := { maxSteps := 400000 }) only [go_sem, ↓reduceIte, reduceCtorEq, Nat.reduceEqDiff, Nat.reduceAdd, Nat.reduceLT, Nat.reduceLeDiff, Nat.reduceSub, Int.reduceToNat, Int.reduceLE, Int.reduceLT, Int.reduceNeg, Int.reduceBEq, Int.reduceBNe, Nat.reduceMul, Int.reduceAdd, Int.reduceMul, Int.reduceSub, Int.reduceEq, Int.reduceNe]
  refine WF_pure b2 rfl ?_
  simp (config := { maxSteps := 400000 }) only [bne_self_eq_false, beq_self_eq_true, go_sem, ↓reduceIte, reduceCtorEq, Nat.reduceEqDiff, Nat.reduceAdd, Nat.reduceLT, Nat.reduceLeDiff, Nat.reduceSub, Int.reduceToNat, Int.reduceLE, Int.reduceLT, Int.reduceNeg, Int.reduceBEq, Int.reduceBNe, Nat.reduceMul, Int.reduceAdd, Int.reduceMul, Int.reduceSub, Int.reduceEq, Int.reduceNe]
  refine WF_pure m1 rfl ?_
  simp (config := { maxSteps := 400000 }) only [go_sem, ↓reduceIte, reduceCtorEq, Nat.reduceEqDiff, Nat.reduceAdd, Nat.reduceLT, Nat.reduceLeDiff, Nat.reduceSub, Int.reduceToNat, Int.reduceLE, Int.reduceLT, Int.reduceNeg, Int.reduceBEq, Int.reduceBNe, Nat.reduceMul, Int.reduceAdd, Int.reduceMul, Int.reduceSub, Int.reduceEq, Int.reduceNe]
  refine WF_pure m2 rfl ?_
  simp (config := { maxSteps := 400000 }) only [beq_self_eq_true, go_sem, ↓reduceIte, reduceCtorEq, Nat.reduceEqDiff, Nat.reduceAdd, Nat.reduceLT, Nat.reduceLeDiff, Nat.reduceSub, Int.reduceToNat, Int.reduceLE, Int.reduceLT, Int.reduceNeg, Int.reduceBEq, Int.reduceBNe, Nat.reduceMul, Int.reduceAdd, Int.reduceMul, Int.reduceSub, Int.reduceEq, Int.reduceNe]
  refine WF_pure cAwake rfl ?_
  simp (config := { maxSteps := 400000 }) only [go_sem, ↓reduceIte, reduceCtorEq, Nat.reduceEqDiff, Nat.reduceAdd, Nat.reduceLT, Nat.reduceLeDiff, Nat.reduceSub, Int.reduceToNat, Int.reduceLE, Int.reduceLT, Int.reduceNeg, Int.reduceBEq, Int.reduceBNe, Nat.reduceMul, Int.reduceAdd, Int.reduceMul, Int.reduceSub, Int.reduceEq, Int.reduceNe]
theorem faults_len (s : Shop) (k : Int) (c : Candle) (w : Wick) (x : Wax) : (faultsSpec s k c w x).1.length < 1000000000 := by
  unfold faultsSpec
  split
  · unfold faultsOf flagL
    cases smokes s (mostB w x c) <;> cases goesOut s (leastB w x c) <;> cases tunnels s c.diameter (leastB w x c) <;> cases runsOver s c.diameter (mostB w x c) <;> decide
  · show 0 < 1000000000; decide
theorem suitsSpec_len (s : Shop) (c : Candle) (x : Wax) (h : askErr s [] c = 0 → Site s c x) : (suitsSpec s c x).1.length < 1000000000 := by
  unfold suitsSpec
  split
  · rename_i h0
    have := suits_len s c x s.wicks 0
    have := (h h0).so.lw
    simp only
    omega
  · show 0 < 1000000000; decide
theorem lSuits (s : Shop) (k : Int) (c : Candle) : PCall Try.prog 5 [s.pv, .int .i64 k, c.pv] (.bool true) := by
  obtain ⟨w, x, h⟩ := site_any s k c
  obtain ⟨x0, h0⟩ := site_any0 s c
  have a1 := cWickFaults s k c w x h
  have a2 := cRefFaults s k c w x h
  have al := faults_len s k c w x
  have b1 := cWickSuits s c x0 h0
  have b2 := cRefSuits s c x0 h0
  have bl := suitsSpec_len s c x0 h0
  have t1 := cWickThinnest s c x0 h0
  have t2 := cRefThinnest s c x0 h0
  have z1 := cWickSizes s k c w x h
  have z2 := cRefSizes s k c w x h
  generalize faultsSpec s k c w x = a at a1 a2 al
  generalize suitsSpec s c x0 = b at b1 b2 bl
  generalize thinSpec s c x0 = t at t1 t2
  generalize sizesSpec s k c w x = z at z1 z2
  refine pcall_of_wp draws (fn := Try.f5) (n := 104) (rs := [.tmp 6]) (by kernel_rfl) rfl rfl rfl ok5 (Nat.le_of_ble_eq_true rfl) ?_
  simp (config := { maxSteps := 400000 }) only [go_sem, ↓reduceIte, reduceCtorEq, Nat.reduceEqDiff, Nat.reduceAdd, Nat.reduceLT, Nat.reduceLeDiff, Nat.reduceSub, Int.reduceToNat, Int.reduceLE, Int.reduceLT, Int.reduceNeg, Int.reduceBEq, Int.reduceBNe, Nat.reduceMul, Int.reduceAdd, Int.reduceMul, Int.reduceSub, Int.reduceEq, Int.reduceNe]
  refine WF_pure a1 rfl ?_
  simp (config := { maxSteps := 400000 }) only [go_sem, ↓reduceIte, reduceCtorEq, Nat.reduceEqDiff, Nat.reduceAdd, Nat.reduceLT, Nat.reduceLeDiff, Nat.reduceSub, Int.reduceToNat, Int.reduceLE, Int.reduceLT, Int.reduceNeg, Int.reduceBEq, Int.reduceBNe, Nat.reduceMul, Int.reduceAdd, Int.reduceMul, Int.reduceSub, Int.reduceEq, Int.reduceNe]
  refine WF_pure a2 rfl ?_
  simp (config := { maxSteps := 400000 }) only [bne_self_eq_false, beq_self_eq_true, go_sem, ↓reduceIte, reduceCtorEq, Nat.reduceEqDiff, Nat.reduceAdd, Nat.reduceLT, Nat.reduceLeDiff, Nat.reduceSub, Int.reduceToNat, Int.reduceLE, Int.reduceLT, Int.reduceNeg, Int.reduceBEq, Int.reduceBNe, Nat.reduceMul, Int.reduceAdd, Int.reduceMul, Int.reduceSub, Int.reduceEq, Int.reduceNe]
  refine WF_pure (cIntsT a.1 false false al) rfl ?_
  simp (config := { maxSteps := 400000 }) only [bne_self_eq_false, beq_self_eq_true, go_sem, ↓reduceIte, reduceCtorEq, Nat.reduceEqDiff, Nat.reduceAdd, Nat.reduceLT, Nat.reduceLeDiff, Nat.reduceSub, Int.reduceToNat, Int.reduceLE, Int.reduceLT, Int.reduceNeg, Int.reduceBEq, Int.reduceBNe, Nat.reduceMul, Int.reduceAdd, Int.reduceMul, Int.reduceSub, Int.reduceEq, Int.reduceNe]
  refine WF_pure b1 rfl ?_
  simp (config := { maxSteps := 400000 }) only [go_sem, ↓reduceIte, reduceCtorEq, Nat.reduceEqDiff, Nat.reduceAdd, Nat.reduceLT, Nat.reduceLeDiff, Nat.reduceSub, Int.reduceToNat, Int.reduceLE, Int.reduceLT, Int.reduceNeg, Int.reduceBEq, Int.reduceBNe, Nat.reduceMul, Int.reduceAdd, Int.reduceMul, Int.reduceSub, Int.reduceEq, Int.reduceNe]
  refine WF_pure b2 rfl ?_
  simp (config := { maxSteps := 400000 }) only [bne_self_eq_false, beq_self_eq_true, go_sem, ↓reduceIte, reduceCtorEq, Nat.reduceEqDiff, Nat.reduceAdd, Nat.reduceLT, Nat.reduceLeDiff, Nat.reduceSub, Int.reduceToNat, Int.reduceLE, Int.reduceLT, Int.reduceNeg, Int.reduceBEq, Int.reduceBNe, Nat.reduceMul, Int.reduceAdd, Int.reduceMul, Int.reduceSub, Int.reduceEq, Int.reduceNe]
  refine WF_pure (cIntsT b.1 false false bl) rfl ?_
  simp (config := { maxSteps := 400000 }) only [bne_self_eq_false, beq_self_eq_true, go_sem, ↓reduceIte, reduceCtorEq, Nat.reduceEqDiff, Nat.reduceAdd, Nat.reduceLT, Nat.reduceLeDiff, Nat.reduceSub, Int.reduceToNat, Int.reduceLE, Int.reduceLT, Int.reduceNeg, Int.reduceBEq, Int.reduceBNe, Nat.reduceMul, Int.reduceAdd, Int.reduceMul, Int.reduceSub, Int.reduceEq, Int.reduceNe]
  refine WF_pure t1 rfl ?_
  simp (config := { maxSteps := 400000 }) only [go_sem, ↓reduceIte, reduceCtorEq, Nat.reduceEqDiff, Nat.reduceAdd, Nat.reduceLT, Nat.reduceLeDiff, Nat.reduceSub, Int.reduceToNat, Int.reduceLE, Int.reduceLT, Int.reduceNeg, Int.reduceBEq, Int.reduceBNe, Nat.reduceMul, Int.reduceAdd, Int.reduceMul, Int.reduceSub, Int.reduceEq, Int.reduceNe]
  refine WF_pure t2 rfl ?_
  simp (config := { maxSteps := 400000 }) only [bne_self_eq_false, beq_self_eq_true, go_sem, ↓reduceIte, reduceCtorEq, Nat.reduceEqDiff, Nat.reduceAdd, Nat.reduceLT, Nat.reduceLeDiff, Nat.reduceSub, Int.reduceToNat, Int.reduceLE, Int.reduceLT, Int.reduceNeg, Int.reduceBEq, Int.reduceBNe, Nat.reduceMul, Int.reduceAdd, Int.reduceMul, Int.reduceSub, Int.reduceEq, Int.reduceNe]
  refine WF_pure z1 rfl ?_
  simp (config := { maxSteps := 400000 }) only [go_sem, ↓reduceIte, reduceCtorEq, Nat.reduceEqDiff, Nat.reduceAdd, Nat.reduceLT, Nat.reduceLeDiff, Nat.reduceSub, Int.reduceToNat, Int.reduceLE, Int.reduceLT, Int.reduceNeg, Int.reduceBEq, Int.reduceBNe, Nat.reduceMul, Int.reduceAdd, Int.reduceMul, Int.reduceSub, Int.reduceEq, Int.reduceNe]
  refine WF_pure z2 rfl ?_
  simp (config := { maxSteps := 400000 }) only [bne_self_eq_false, beq_self_eq_true, go_sem, ↓reduceIte, reduceCtorEq, Nat.reduceEqDiff, Nat.reduceAdd, Nat.reduceLT, Nat.reduceLeDiff, Nat.reduceSub, Int.reduceToNat, Int.reduceLE, Int.reduceLT, Int.reduceNeg, Int.reduceBEq, Int.reduceBNe, Nat.reduceMul, Int.reduceAdd, Int.reduceMul, Int.reduceSub, Int.reduceEq, Int.reduceNe]
  refine WF_pure cAwake rfl ?_
  simp (config := { maxSteps := 400000 }) only [go_sem, ↓reduceIte, reduceCtorEq, Nat.reduceEqDiff, Nat.reduceAdd, Nat.reduceLT, Nat.reduceLeDiff, Nat.reduceSub, Int.reduceToNat, Int.reduceLE, Int.reduceLT, Int.reduceNeg, Int.reduceBEq, Int.reduceBNe, Nat.reduceMul, Int.reduceAdd, Int.reduceMul, Int.reduceSub, Int.reduceEq, Int.reduceNe]
theorem lKnown : PCall Try.prog 6 [] (.bool true) := by
  refine pcall_of_wp draws (fn := Try.f6) (n := 82) (rs := [.tmp 0]) (by kernel_rfl) rfl rfl rfl ok6 (Nat.le_of_ble_eq_true rfl) ?_
  simp (config := { maxSteps := 400000 }) only [go_sem, ↓reduceIte, reduceCtorEq, Nat.reduceEqDiff, Nat.reduceAdd, Nat.reduceLT, Nat.reduceLeDiff, Nat.reduceSub, Int.reduceToNat, Int.reduceLE, Int.reduceLT, Int.reduceNeg, Int.reduceBEq, Int.reduceBNe, Nat.reduceMul, Int.reduceAdd, Int.reduceMul, Int.reduceSub, Int.reduceEq, Int.reduceNe]
  repeat' first
    | (refine WF_pure cShop rfl ?_; simp (config := { maxSteps := 400000 }) only [go_sem, ↓reduceIte, reduceCtorEq, Nat.reduceEqDiff, Nat.reduceAdd, Nat.reduceLT, Nat.reduceLeDiff, Nat.reduceSub, Int.reduceToNat, Int.reduceLE, Int.reduceLT, Int.reduceNeg, Int.reduceBEq, Int.reduceBNe, Nat.reduceMul, Int.reduceAdd, Int.reduceMul, Int.reduceSub, Int.reduceEq, Int.reduceNe])
    | (refine WF_pure cCandle rfl ?_; simp (config := { maxSteps := 400000 }) only [go_sem, ↓reduceIte, reduceCtorEq, Nat.reduceEqDiff, Nat.reduceAdd, Nat.reduceLT, Nat.reduceLeDiff, Nat.reduceSub, Int.reduceToNat, Int.reduceLE, Int.reduceLT, Int.reduceNeg, Int.reduceBEq, Int.reduceBNe, Nat.reduceMul, Int.reduceAdd, Int.reduceMul, Int.reduceSub, Int.reduceEq, Int.reduceNe])
    | (refine WF_pure (cSized _) rfl ?_; simp (config := { maxSteps := 400000 }) only [go_sem, ↓reduceIte, reduceCtorEq, Nat.reduceEqDiff, Nat.reduceAdd, Nat.reduceLT, Nat.reduceLeDiff, Nat.reduceSub, Int.reduceToNat, Int.reduceLE, Int.reduceLT, Int.reduceNeg, Int.reduceBEq, Int.reduceBNe, Nat.reduceMul, Int.reduceAdd, Int.reduceMul, Int.reduceSub, Int.reduceEq, Int.reduceNe])
    | (refine WF_pure kFaults0 rfl ?_; simp (config := { maxSteps := 400000 }) only [go_sem, ↓reduceIte, reduceCtorEq, Nat.reduceEqDiff, Nat.reduceAdd, Nat.reduceLT, Nat.reduceLeDiff, Nat.reduceSub, Int.reduceToNat, Int.reduceLE, Int.reduceLT, Int.reduceNeg, Int.reduceBEq, Int.reduceBNe, Nat.reduceMul, Int.reduceAdd, Int.reduceMul, Int.reduceSub, Int.reduceEq, Int.reduceNe])
    | (refine WF_pure kFaults1 rfl ?_; simp (config := { maxSteps := 400000 }) only [go_sem, ↓reduceIte, reduceCtorEq, Nat.reduceEqDiff, Nat.reduceAdd, Nat.reduceLT, Nat.reduceLeDiff, Nat.reduceSub, Int.reduceToNat, Int.reduceLE, Int.reduceLT, Int.reduceNeg, Int.reduceBEq, Int.reduceBNe, Nat.reduceMul, Int.reduceAdd, Int.reduceMul, Int.reduceSub, Int.reduceEq, Int.reduceNe])
    | (refine WF_pure kSuits250 rfl ?_; simp (config := { maxSteps := 400000 }) only [go_sem, ↓reduceIte, reduceCtorEq, Nat.reduceEqDiff, Nat.reduceAdd, Nat.reduceLT, Nat.reduceLeDiff, Nat.reduceSub, Int.reduceToNat, Int.reduceLE, Int.reduceLT, Int.reduceNeg, Int.reduceBEq, Int.reduceBNe, Nat.reduceMul, Int.reduceAdd, Int.reduceMul, Int.reduceSub, Int.reduceEq, Int.reduceNe])
    | (refine WF_pure kSizes0 rfl ?_; simp (config := { maxSteps := 400000 }) only [go_sem, ↓reduceIte, reduceCtorEq, Nat.reduceEqDiff, Nat.reduceAdd, Nat.reduceLT, Nat.reduceLeDiff, Nat.reduceSub, Int.reduceToNat, Int.reduceLE, Int.reduceLT, Int.reduceNeg, Int.reduceBEq, Int.reduceBNe, Nat.reduceMul, Int.reduceAdd, Int.reduceMul, Int.reduceSub, Int.reduceEq, Int.reduceNe])
    | (refine WF_pure kSizes2 rfl ?_; simp (config := { maxSteps := 400000 }) only [List.append_eq, go_sem, ↓reduceIte, reduceCtorEq, Nat.reduceEqDiff, Nat.reduceAdd, Nat.reduceLT, Nat.reduceLeDiff, Nat.reduceSub, Int.reduceToNat, Int.reduceLE, Int.reduceLT, Int.reduceNeg, Int.reduceBEq, Int.reduceBNe, Nat.reduceMul, Int.reduceAdd, Int.reduceMul, Int.reduceSub, Int.reduceEq, Int.reduceNe])
  refine WDQ_pure (cIntsT [3] false true (by decide)) rfl ?_
  simp (config := { maxSteps := 400000 }) only [List.append_eq, intsPV, go_sem, ↓reduceIte, reduceCtorEq, Nat.reduceEqDiff, Nat.reduceAdd, Nat.reduceLT, Nat.reduceLeDiff, Nat.reduceSub, Int.reduceToNat, Int.reduceLE, Int.reduceLT, Int.reduceNeg, Int.reduceBEq, Int.reduceBNe, Nat.reduceMul, Int.reduceAdd, Int.reduceMul, Int.reduceSub, Int.reduceEq, Int.reduceNe]
  refine WDQ_pure (cIntsT [0] false true (by decide)) rfl ?_
  simp (config := { maxSteps := 400000 }) only [List.append_eq, go_sem, ↓reduceIte, reduceCtorEq, Nat.reduceEqDiff, Nat.reduceAdd, Nat.reduceLT, Nat.reduceLeDiff, Nat.reduceSub, Int.reduceToNat, Int.reduceLE, Int.reduceLT, Int.reduceNeg, Int.reduceBEq, Int.reduceBNe, Nat.reduceMul, Int.reduceAdd, Int.reduceMul, Int.reduceSub, Int.reduceEq, Int.reduceNe]
  refine WDQ_pure (cLawSpan _ _) rfl ?_
  simp (config := { maxSteps := 400000 }) only [List.append_eq, go_sem, ↓reduceIte, reduceCtorEq, Nat.reduceEqDiff, Nat.reduceAdd, Nat.reduceLT, Nat.reduceLeDiff, Nat.reduceSub, Int.reduceToNat, Int.reduceLE, Int.reduceLT, Int.reduceNeg, Int.reduceBEq, Int.reduceBNe, Nat.reduceMul, Int.reduceAdd, Int.reduceMul, Int.reduceSub, Int.reduceEq, Int.reduceNe]
  refine WDQ_pure cAwake rfl ?_
  simp (config := { maxSteps := 400000 }) only [List.append_eq, go_sem, ↓reduceIte, reduceCtorEq, Nat.reduceEqDiff, Nat.reduceAdd, Nat.reduceLT, Nat.reduceLeDiff, Nat.reduceSub, Int.reduceToNat, Int.reduceLE, Int.reduceLT, Int.reduceNeg, Int.reduceBEq, Int.reduceBNe, Nat.reduceMul, Int.reduceAdd, Int.reduceMul, Int.reduceSub, Int.reduceEq, Int.reduceNe]
end Abs
end Go.Proofs.Ytdgmmijimclooaa
