/-
  CONTRACTS: Listed, Faults.
-/
import Derived.Test.YtdgmmijimclooaaWkFlt
namespace Go.Proofs.Ytdgmmijimclooaa
namespace Abs
set_option linter.unusedSimpArgs false
set_option maxRecDepth 4000

theorem drawn_mono {a b : Truth} (h0 : 0 ≤ a.pull) (h1 : a.pull ≤ b.pull) (h2 : 0 ≤ a.flow) (h3 : a.flow ≤ b.flow) (h4 : -100 ≤ a.draught) (h5 : a.draught ≤ b.draught) : 0 ≤ drawnOf a ∧ drawnOf a ≤ drawnOf b := by
  have h6 : 0 ≤ a.pull * a.flow := Int.mul_nonneg h0 h2
  have h7 : a.pull * a.flow ≤ b.pull * b.flow := Int.mul_le_mul h1 h3 h2 (by omega)
  exact ⟨Int.mul_nonneg h6 (by omega), Int.mul_le_mul h7 (by omega) (by omega) (by omega)⟩
/-- more of what draws, less cold -/
theorem burn_mono {a b : Truth} {chill : Int} (hc : 0 ≤ chill) (h0 : 0 ≤ a.pull) (h1 : a.pull ≤ b.pull) (h2 : 0 ≤ a.flow) (h3 : a.flow ≤ b.flow) (h4 : -100 ≤ a.draught) (h5 : a.draught ≤ b.draught) (h6 : 0 ≤ a.rise) (h7 : a.rise ≤ b.rise)
    (h8 : 0 ≤ a.spread) (h9 : a.spread ≤ b.spread) (h10 : b.cold ≤ a.cold) : (burnOf chill a).rate ≤ (burnOf chill b).rate ∧ (burnOf chill a).flame ≤ (burnOf chill b).flame ∧ (burnOf chill a).pool ≤ (burnOf chill b).pool := by
  obtain ⟨d0, d1⟩ := drawn_mono h0 h1 h2 h3 h4 h5
  have e1 : drawnOf a * a.rise ≤ drawnOf b * b.rise := Int.mul_le_mul d1 h7 h6 (by omega)
  have e2 : drawnOf a * a.spread ≤ drawnOf b * b.spread := Int.mul_le_mul d1 h9 h8 (by omega)
  have e3 : b.cold * chill ≤ a.cold * chill := Int.mul_le_mul_of_nonneg_right h10 hc
  simp only [burnOf]
  omega
theorem ends_mono {w : Wick} {x : Wax} {c : Candle} (hw : WickOk w) (hx : WaxOk x) (hc : CandleOk c) : (leastB w x c).rate ≤ (mostB w x c).rate ∧ (leastB w x c).flame ≤ (mostB w x c).flame ∧ (leastB w x c).pool ≤ (mostB w x c).pool := by
  have := hw.p; have := hx.f; have := hx.r; have := hx.s; have := hx.c; have := hc.g; have := hc.c
  refine burn_mono ?_ ?_ ?_ ?_ ?_ ?_ ?_ ?_ ?_ ?_ ?_ ?_ <;> first | omega | (simp only [leastT, mostT]; omega)

theorem has_wrong (s : Shop) (d : Int) (b : Burn) : ((wrongOf s d b).any fun m => m == 1) = smokes s b ∧ ((wrongOf s d b).any fun m => m == 2) = goesOut s b ∧ ((wrongOf s d b).any fun m => m == 3) = tunnels s d b ∧ ((wrongOf s d b).any fun m => m == 4) = runsOver s d b := by
  unfold wrongOf flagL
  cases smokes s b <;> cases goesOut s b <;> cases tunnels s d b <;> cases runsOver s d b <;> decide
theorem wrong_len (s : Shop) (d : Int) (b : Burn) : (wrongOf s d b).length < 1000000 := by
  unfold wrongOf flagL
  cases smokes s b <;> cases goesOut s b <;> cases tunnels s d b <;> cases runsOver s d b <;> decide

theorem cListed (s : Shop) (c : Candle) (x : Wax) (k : Int) (w : Wick) (hs : Site s c x) (hk : SiteK s k w) : PCall Try.prog 62 [s.pv, .int .i64 k, c.pv] (intsPV (faultsOf s c.diameter (leastB w x c) (mostB w x c))) := by
  have hl0 := leastOk hk.wo hs.xo hs.co
  have hm0 := mostOk hk.wo hs.xo hs.co
  have em := ends_mono hk.wo hs.xo hs.co
  have m1 : (smokes s (leastB w x c) || smokes s (mostB w x c)) = smokes s (mostB w x c) := by
    unfold smokes; rw [Bool.eq_iff_iff]; simp; omega
  have m2 : (goesOut s (leastB w x c) || goesOut s (mostB w x c)) = goesOut s (leastB w x c) := by
    unfold goesOut; rw [Bool.eq_iff_iff]; simp; omega
  have m3 : (tunnels s c.diameter (leastB w x c) || tunnels s c.diameter (mostB w x c)) = tunnels s c.diameter (leastB w x c) := by
    unfold tunnels; rw [Bool.eq_iff_iff]; simp; omega
  have m4 : (runsOver s c.diameter (leastB w x c) || runsOver s c.diameter (mostB w x c)) = runsOver s c.diameter (mostB w x c) := by
    unfold runsOver; rw [Bool.eq_iff_iff]; simp; omega
  obtain ⟨p1, p2, p3, p4⟩ := has_wrong s c.diameter (leastB w x c)
  obtain ⟨q1, q2, q3, q4⟩ := has_wrong s c.diameter (mostB w x c)
  have la := wrong_len s c.diameter (leastB w x c)
  have lb := wrong_len s c.diameter (mostB w x c)
  refine pcall_of_wp_frzN draws (fn := Try.f62) (n := 51) (rs := [.tmp 6]) (by kernel_rfl) rfl rfl rfl ok62 (Nat.le_of_ble_eq_true rfl) ?_
  simp (maxSteps := 400000) only [go_sem, ↓reduceIte, reduceCtorEq, Nat.reduceEqDiff, Nat.reduceAdd, Nat.reduceLT, Nat.reduceLeDiff, Nat.reduceSub, Int.reduceToNat, Int.reduceLE, Int.reduceLT, Int.reduceNeg, Int.reduceBEq, Int.reduceBNe, Nat.reduceMul, Int.reduceAdd, Int.reduceMul, Int.reduceSub, Int.reduceEq, Int.reduceNe]
  refine WF_pure (cRefEnds s c x k w hs hk) rfl ?_
  simp (maxSteps := 400000) only [go_sem, ↓reduceIte, reduceCtorEq, Nat.reduceEqDiff, Nat.reduceAdd, Nat.reduceLT, Nat.reduceLeDiff, Nat.reduceSub, Int.reduceToNat, Int.reduceLE, Int.reduceLT, Int.reduceNeg, Int.reduceBEq, Int.reduceBNe, Nat.reduceMul, Int.reduceAdd, Int.reduceMul, Int.reduceSub, Int.reduceEq, Int.reduceNe]
  refine WDQ_pure (cBurns s c x _ hs hl0) rfl ?_
  simp (maxSteps := 400000) only [go_sem, ↓reduceIte, reduceCtorEq, Nat.reduceEqDiff, Nat.reduceAdd, Nat.reduceLT, Nat.reduceLeDiff, Nat.reduceSub, Int.reduceToNat, Int.reduceLE, Int.reduceLT, Int.reduceNeg, Int.reduceBEq, Int.reduceBNe, Nat.reduceMul, Int.reduceAdd, Int.reduceMul, Int.reduceSub, Int.reduceEq, Int.reduceNe]
  refine WDQ_pure (cWrong s c (leastB w x c) hs.so hs.co (bok_of hl0 hs.xo.c)) rfl ?_
  simp (maxSteps := 400000) only [go_sem, ↓reduceIte, reduceCtorEq, Nat.reduceEqDiff, Nat.reduceAdd, Nat.reduceLT, Nat.reduceLeDiff, Nat.reduceSub, Int.reduceToNat, Int.reduceLE, Int.reduceLT, Int.reduceNeg, Int.reduceBEq, Int.reduceBNe, Nat.reduceMul, Int.reduceAdd, Int.reduceMul, Int.reduceSub, Int.reduceEq, Int.reduceNe]
  refine WDQ_pure (cBurns s c x _ hs hm0) rfl ?_
  simp (maxSteps := 400000) only [go_sem, ↓reduceIte, reduceCtorEq, Nat.reduceEqDiff, Nat.reduceAdd, Nat.reduceLT, Nat.reduceLeDiff, Nat.reduceSub, Int.reduceToNat, Int.reduceLE, Int.reduceLT, Int.reduceNeg, Int.reduceBEq, Int.reduceBNe, Nat.reduceMul, Int.reduceAdd, Int.reduceMul, Int.reduceSub, Int.reduceEq, Int.reduceNe]
  refine WDQ_pure (cWrong s c (mostB w x c) hs.so hs.co (bok_of hm0 hs.xo.c)) rfl ?_
  simp (maxSteps := 400000) only [intsPV, go_sem, ↓reduceIte, reduceCtorEq, Nat.reduceEqDiff, Nat.reduceAdd, Nat.reduceLT, Nat.reduceLeDiff, Nat.reduceSub, Int.reduceToNat, Int.reduceLE, Int.reduceLT, Int.reduceNeg, Int.reduceBEq, Int.reduceBNe, Nat.reduceMul, Int.reduceAdd, Int.reduceMul, Int.reduceSub, Int.reduceEq, Int.reduceNe]
  refine W_loop_nil 11 1 (by simp (maxSteps := 400000) only [go_sem, ↓reduceIte, reduceCtorEq, Nat.reduceEqDiff, Nat.reduceAdd, Nat.reduceLT, Nat.reduceLeDiff, Nat.reduceSub, Int.reduceToNat, Int.reduceLE, Int.reduceLT, Int.reduceNeg, Int.reduceBEq, Int.reduceBNe, Nat.reduceMul, Int.reduceAdd, Int.reduceMul, Int.reduceSub, Int.reduceEq, Int.reduceNe]) ?_
  simp (maxSteps := 400000) only [go_sem, ↓reduceIte, reduceCtorEq, Nat.reduceEqDiff, Nat.reduceAdd, Nat.reduceLT, Nat.reduceLeDiff, Nat.reduceSub, Int.reduceToNat, Int.reduceLE, Int.reduceLT, Int.reduceNeg, Int.reduceBEq, Int.reduceBNe, Nat.reduceMul, Int.reduceAdd, Int.reduceMul, Int.reduceSub, Int.reduceEq, Int.reduceNe]
  generalize ho : outs (smokes s (mostB w x c)) (goesOut s (leastB w x c)) (tunnels s c.diameter (leastB w x c)) (runsOver s c.diameter (mostB w x c)) = o
  have hlen : ∀ i, (o i).length + 1 ≤ room := fun i => by
    have := outs_len (smokes s (mostB w x c)) (goesOut s (leastB w x c)) (tunnels s c.diameter (leastB w x c)) (runsOver s c.diameter (mostB w x c)) i
    rw [ho] at this
    simp only [room]; omega
  refine W_loopS [9, 10] (σ := Nat) (fun i => i ≤ 4) (fun i => 4 - i) (fun i => [(11, .slice 4 (o i).length 0 (o i).length), (12, .p (.int .i64 ((i + 1 : Nat) : Int)))]) (fun i h => h.set 4 (.row 1 ((o i).map fun n => .p (.int .i64 n)))) 0 (by omega) ?_ ?_
  · have h0 : o 0 = [] := by rw [← ho]; rfl
    simp (maxSteps := 400000) only [h0, go_sem, ↓reduceIte, reduceCtorEq, Nat.reduceEqDiff, Nat.reduceAdd, Nat.reduceLT, Nat.reduceLeDiff, Nat.reduceSub, Int.reduceToNat, Int.reduceLE, Int.reduceLT, Int.reduceNeg, Int.reduceBEq, Int.reduceBNe, Nat.reduceMul, Int.reduceAdd, Int.reduceMul, Int.reduceSub, Int.reduceEq, Int.reduceNe]
  intro i hi
  have hcase : i = 0 ∨ i = 1 ∨ i = 2 ∨ i = 3 ∨ i = 4 := by omega
  rcases hcase with rfl | rfl | rfl | rfl | rfl
  · have hl := hlen 0
    have h1 : o 1 = o 0 ++ flagL (smokes s (mostB w x c)) 1 := by rw [← ho]; simp [outs]
    simp (maxSteps := 400000) only [go_sem, ↓reduceIte, reduceCtorEq, Nat.reduceEqDiff, Nat.reduceAdd, Nat.reduceLT, Nat.reduceLeDiff, Nat.reduceSub, Int.reduceToNat, Int.reduceLE, Int.reduceLT, Int.reduceNeg, Int.reduceBEq, Int.reduceBNe, Nat.reduceMul, Int.reduceAdd, Int.reduceMul, Int.reduceSub, Int.reduceEq, Int.reduceNe]
    refine WF_pure (cHas _ 1 false la) rfl ?_
    simp (maxSteps := 400000) only [p1, go_sem, ↓reduceIte, reduceCtorEq, Nat.reduceEqDiff, Nat.reduceAdd, Nat.reduceLT, Nat.reduceLeDiff, Nat.reduceSub, Int.reduceToNat, Int.reduceLE, Int.reduceLT, Int.reduceNeg, Int.reduceBEq, Int.reduceBNe, Nat.reduceMul, Int.reduceAdd, Int.reduceMul, Int.reduceSub, Int.reduceEq, Int.reduceNe]
    have fin0 : smokes s (mostB w x c) = false → o 1 = o 0 := fun hb => by rw [h1, hb]; simp [flagL]
    have fin1 : smokes s (mostB w x c) = true → o 1 = o 0 ++ [1] := fun hb => by rw [h1, hb]; rfl
    cases hb : smokes s (leastB w x c)
    · simp (maxSteps := 400000) only [go_sem, ↓reduceIte, reduceCtorEq, Nat.reduceEqDiff, Nat.reduceAdd, Nat.reduceLT, Nat.reduceLeDiff, Nat.reduceSub, Int.reduceToNat, Int.reduceLE, Int.reduceLT, Int.reduceNeg, Int.reduceBEq, Int.reduceBNe, Nat.reduceMul, Int.reduceAdd, Int.reduceMul, Int.reduceSub, Int.reduceEq, Int.reduceNe]
      refine WF_pure (cHas _ 1 false lb) rfl ?_
      simp (maxSteps := 400000) only [q1, go_sem, ↓reduceIte, reduceCtorEq, Nat.reduceEqDiff, Nat.reduceAdd, Nat.reduceLT, Nat.reduceLeDiff, Nat.reduceSub, Int.reduceToNat, Int.reduceLE, Int.reduceLT, Int.reduceNeg, Int.reduceBEq, Int.reduceBNe, Nat.reduceMul, Int.reduceAdd, Int.reduceMul, Int.reduceSub, Int.reduceEq, Int.reduceNe]
      cases hb2 : smokes s (mostB w x c)
      · simp (maxSteps := 400000) only [go_sem, ↓reduceIte, reduceCtorEq, Nat.reduceEqDiff, Nat.reduceAdd, Nat.reduceLT, Nat.reduceLeDiff, Nat.reduceSub, Int.reduceToNat, Int.reduceLE, Int.reduceLT, Int.reduceNeg, Int.reduceBEq, Int.reduceBNe, Nat.reduceMul, Int.reduceAdd, Int.reduceMul, Int.reduceSub, Int.reduceEq, Int.reduceNe]
        refine WQ_headA 1 (by omega) (by omega) ?_
        simp (maxSteps := 400000) only [fin0 (by rw [← m1, hb, hb2]; rfl), go_sem, ↓reduceIte, reduceCtorEq, Nat.reduceEqDiff, Nat.reduceAdd, Nat.reduceLT, Nat.reduceLeDiff, Nat.reduceSub, Int.reduceToNat, Int.reduceLE, Int.reduceLT, Int.reduceNeg, Int.reduceBEq, Int.reduceBNe, Nat.reduceMul, Int.reduceAdd, Int.reduceMul, Int.reduceSub, Int.reduceEq, Int.reduceNe]
      · simp (maxSteps := 400000) only [hl, go_sem, ↓reduceIte, reduceCtorEq, Nat.reduceEqDiff, Nat.reduceAdd, Nat.reduceLT, Nat.reduceLeDiff, Nat.reduceSub, Int.reduceToNat, Int.reduceLE, Int.reduceLT, Int.reduceNeg, Int.reduceBEq, Int.reduceBNe, Nat.reduceMul, Int.reduceAdd, Int.reduceMul, Int.reduceSub, Int.reduceEq, Int.reduceNe]
        refine WQ_headA 1 (by omega) (by omega) ?_
        simp (maxSteps := 400000) only [fin1 (by rw [← m1, hb, hb2]; rfl), List.length_append, List.map_append, go_sem, ↓reduceIte, reduceCtorEq, Nat.reduceEqDiff, Nat.reduceAdd, Nat.reduceLT, Nat.reduceLeDiff, Nat.reduceSub, Int.reduceToNat, Int.reduceLE, Int.reduceLT, Int.reduceNeg, Int.reduceBEq, Int.reduceBNe, Nat.reduceMul, Int.reduceAdd, Int.reduceMul, Int.reduceSub, Int.reduceEq, Int.reduceNe]
    · simp (maxSteps := 400000) only [hl, go_sem, ↓reduceIte, reduceCtorEq, Nat.reduceEqDiff, Nat.reduceAdd, Nat.reduceLT, Nat.reduceLeDiff, Nat.reduceSub, Int.reduceToNat, Int.reduceLE, Int.reduceLT, Int.reduceNeg, Int.reduceBEq, Int.reduceBNe, Nat.reduceMul, Int.reduceAdd, Int.reduceMul, Int.reduceSub, Int.reduceEq, Int.reduceNe]
      refine WQ_headA 1 (by omega) (by omega) ?_
      simp (maxSteps := 400000) only [fin1 (by rw [← m1, hb]; rfl), List.length_append, List.map_append, go_sem, ↓reduceIte, reduceCtorEq, Nat.reduceEqDiff, Nat.reduceAdd, Nat.reduceLT, Nat.reduceLeDiff, Nat.reduceSub, Int.reduceToNat, Int.reduceLE, Int.reduceLT, Int.reduceNeg, Int.reduceBEq, Int.reduceBNe, Nat.reduceMul, Int.reduceAdd, Int.reduceMul, Int.reduceSub, Int.reduceEq, Int.reduceNe]
  · have hl := hlen 1
    have h1 : o 2 = o 1 ++ flagL (goesOut s (leastB w x c)) 2 := by rw [← ho]; simp [outs]
    simp (maxSteps := 400000) only [go_sem, ↓reduceIte, reduceCtorEq, Nat.reduceEqDiff, Nat.reduceAdd, Nat.reduceLT, Nat.reduceLeDiff, Nat.reduceSub, Int.reduceToNat, Int.reduceLE, Int.reduceLT, Int.reduceNeg, Int.reduceBEq, Int.reduceBNe, Nat.reduceMul, Int.reduceAdd, Int.reduceMul, Int.reduceSub, Int.reduceEq, Int.reduceNe]
    refine WF_pure (cHas _ 2 false la) rfl ?_
    simp (maxSteps := 400000) only [p2, go_sem, ↓reduceIte, reduceCtorEq, Nat.reduceEqDiff, Nat.reduceAdd, Nat.reduceLT, Nat.reduceLeDiff, Nat.reduceSub, Int.reduceToNat, Int.reduceLE, Int.reduceLT, Int.reduceNeg, Int.reduceBEq, Int.reduceBNe, Nat.reduceMul, Int.reduceAdd, Int.reduceMul, Int.reduceSub, Int.reduceEq, Int.reduceNe]
    have fin0 : goesOut s (leastB w x c) = false → o 2 = o 1 := fun hb => by rw [h1, hb]; simp [flagL]
    have fin1 : goesOut s (leastB w x c) = true → o 2 = o 1 ++ [2] := fun hb => by rw [h1, hb]; rfl
    cases hb : goesOut s (leastB w x c)
    · simp (maxSteps := 400000) only [go_sem, ↓reduceIte, reduceCtorEq, Nat.reduceEqDiff, Nat.reduceAdd, Nat.reduceLT, Nat.reduceLeDiff, Nat.reduceSub, Int.reduceToNat, Int.reduceLE, Int.reduceLT, Int.reduceNeg, Int.reduceBEq, Int.reduceBNe, Nat.reduceMul, Int.reduceAdd, Int.reduceMul, Int.reduceSub, Int.reduceEq, Int.reduceNe]
      refine WF_pure (cHas _ 2 false lb) rfl ?_
      simp (maxSteps := 400000) only [q2, go_sem, ↓reduceIte, reduceCtorEq, Nat.reduceEqDiff, Nat.reduceAdd, Nat.reduceLT, Nat.reduceLeDiff, Nat.reduceSub, Int.reduceToNat, Int.reduceLE, Int.reduceLT, Int.reduceNeg, Int.reduceBEq, Int.reduceBNe, Nat.reduceMul, Int.reduceAdd, Int.reduceMul, Int.reduceSub, Int.reduceEq, Int.reduceNe]
      cases hb2 : goesOut s (mostB w x c)
      · simp (maxSteps := 400000) only [go_sem, ↓reduceIte, reduceCtorEq, Nat.reduceEqDiff, Nat.reduceAdd, Nat.reduceLT, Nat.reduceLeDiff, Nat.reduceSub, Int.reduceToNat, Int.reduceLE, Int.reduceLT, Int.reduceNeg, Int.reduceBEq, Int.reduceBNe, Nat.reduceMul, Int.reduceAdd, Int.reduceMul, Int.reduceSub, Int.reduceEq, Int.reduceNe]
        refine WQ_headA 2 (by omega) (by omega) ?_
        simp (maxSteps := 400000) only [fin0 (by rw [← m2, hb, hb2]; rfl), go_sem, ↓reduceIte, reduceCtorEq, Nat.reduceEqDiff, Nat.reduceAdd, Nat.reduceLT, Nat.reduceLeDiff, Nat.reduceSub, Int.reduceToNat, Int.reduceLE, Int.reduceLT, Int.reduceNeg, Int.reduceBEq, Int.reduceBNe, Nat.reduceMul, Int.reduceAdd, Int.reduceMul, Int.reduceSub, Int.reduceEq, Int.reduceNe]
      · simp (maxSteps := 400000) only [hl, go_sem, ↓reduceIte, reduceCtorEq, Nat.reduceEqDiff, Nat.reduceAdd, Nat.reduceLT, Nat.reduceLeDiff, Nat.reduceSub, Int.reduceToNat, Int.reduceLE, Int.reduceLT, Int.reduceNeg, Int.reduceBEq, Int.reduceBNe, Nat.reduceMul, Int.reduceAdd, Int.reduceMul, Int.reduceSub, Int.reduceEq, Int.reduceNe]
        refine WQ_headA 2 (by omega) (by omega) ?_
        simp (maxSteps := 400000) only [fin1 (by rw [← m2, hb, hb2]; rfl), List.length_append, List.map_append, go_sem, ↓reduceIte, reduceCtorEq, Nat.reduceEqDiff, Nat.reduceAdd, Nat.reduceLT, Nat.reduceLeDiff, Nat.reduceSub, Int.reduceToNat, Int.reduceLE, Int.reduceLT, Int.reduceNeg, Int.reduceBEq, Int.reduceBNe, Nat.reduceMul, Int.reduceAdd, Int.reduceMul, Int.reduceSub, Int.reduceEq, Int.reduceNe]
    · simp (maxSteps := 400000) only [hl, go_sem, ↓reduceIte, reduceCtorEq, Nat.reduceEqDiff, Nat.reduceAdd, Nat.reduceLT, Nat.reduceLeDiff, Nat.reduceSub, Int.reduceToNat, Int.reduceLE, Int.reduceLT, Int.reduceNeg, Int.reduceBEq, Int.reduceBNe, Nat.reduceMul, Int.reduceAdd, Int.reduceMul, Int.reduceSub, Int.reduceEq, Int.reduceNe]
      refine WQ_headA 2 (by omega) (by omega) ?_
      simp (maxSteps := 400000) only [fin1 (by rw [← m2, hb]; rfl), List.length_append, List.map_append, go_sem, ↓reduceIte, reduceCtorEq, Nat.reduceEqDiff, Nat.reduceAdd, Nat.reduceLT, Nat.reduceLeDiff, Nat.reduceSub, Int.reduceToNat, Int.reduceLE, Int.reduceLT, Int.reduceNeg, Int.reduceBEq, Int.reduceBNe, Nat.reduceMul, Int.reduceAdd, Int.reduceMul, Int.reduceSub, Int.reduceEq, Int.reduceNe]
  · have hl := hlen 2
    have h1 : o 3 = o 2 ++ flagL (tunnels s c.diameter (leastB w x c)) 3 := by rw [← ho]; simp [outs]
    simp (maxSteps := 400000) only [go_sem, ↓reduceIte, reduceCtorEq, Nat.reduceEqDiff, Nat.reduceAdd, Nat.reduceLT, Nat.reduceLeDiff, Nat.reduceSub, Int.reduceToNat, Int.reduceLE, Int.reduceLT, Int.reduceNeg, Int.reduceBEq, Int.reduceBNe, Nat.reduceMul, Int.reduceAdd, Int.reduceMul, Int.reduceSub, Int.reduceEq, Int.reduceNe]
    refine WF_pure (cHas _ 3 false la) rfl ?_
    simp (maxSteps := 400000) only [p3, go_sem, ↓reduceIte, reduceCtorEq, Nat.reduceEqDiff, Nat.reduceAdd, Nat.reduceLT, Nat.reduceLeDiff, Nat.reduceSub, Int.reduceToNat, Int.reduceLE, Int.reduceLT, Int.reduceNeg, Int.reduceBEq, Int.reduceBNe, Nat.reduceMul, Int.reduceAdd, Int.reduceMul, Int.reduceSub, Int.reduceEq, Int.reduceNe]
    have fin0 : tunnels s c.diameter (leastB w x c) = false → o 3 = o 2 := fun hb => by rw [h1, hb]; simp [flagL]
    have fin1 : tunnels s c.diameter (leastB w x c) = true → o 3 = o 2 ++ [3] := fun hb => by rw [h1, hb]; rfl
    cases hb : tunnels s c.diameter (leastB w x c)
    · simp (maxSteps := 400000) only [go_sem, ↓reduceIte, reduceCtorEq, Nat.reduceEqDiff, Nat.reduceAdd, Nat.reduceLT, Nat.reduceLeDiff, Nat.reduceSub, Int.reduceToNat, Int.reduceLE, Int.reduceLT, Int.reduceNeg, Int.reduceBEq, Int.reduceBNe, Nat.reduceMul, Int.reduceAdd, Int.reduceMul, Int.reduceSub, Int.reduceEq, Int.reduceNe]
      refine WF_pure (cHas _ 3 false lb) rfl ?_
      simp (maxSteps := 400000) only [q3, go_sem, ↓reduceIte, reduceCtorEq, Nat.reduceEqDiff, Nat.reduceAdd, Nat.reduceLT, Nat.reduceLeDiff, Nat.reduceSub, Int.reduceToNat, Int.reduceLE, Int.reduceLT, Int.reduceNeg, Int.reduceBEq, Int.reduceBNe, Nat.reduceMul, Int.reduceAdd, Int.reduceMul, Int.reduceSub, Int.reduceEq, Int.reduceNe]
      cases hb2 : tunnels s c.diameter (mostB w x c)
      · simp (maxSteps := 400000) only [go_sem, ↓reduceIte, reduceCtorEq, Nat.reduceEqDiff, Nat.reduceAdd, Nat.reduceLT, Nat.reduceLeDiff, Nat.reduceSub, Int.reduceToNat, Int.reduceLE, Int.reduceLT, Int.reduceNeg, Int.reduceBEq, Int.reduceBNe, Nat.reduceMul, Int.reduceAdd, Int.reduceMul, Int.reduceSub, Int.reduceEq, Int.reduceNe]
        refine WQ_headA 3 (by omega) (by omega) ?_
        simp (maxSteps := 400000) only [fin0 (by rw [← m3, hb, hb2]; rfl), go_sem, ↓reduceIte, reduceCtorEq, Nat.reduceEqDiff, Nat.reduceAdd, Nat.reduceLT, Nat.reduceLeDiff, Nat.reduceSub, Int.reduceToNat, Int.reduceLE, Int.reduceLT, Int.reduceNeg, Int.reduceBEq, Int.reduceBNe, Nat.reduceMul, Int.reduceAdd, Int.reduceMul, Int.reduceSub, Int.reduceEq, Int.reduceNe]
      · simp (maxSteps := 400000) only [hl, go_sem, ↓reduceIte, reduceCtorEq, Nat.reduceEqDiff, Nat.reduceAdd, Nat.reduceLT, Nat.reduceLeDiff, Nat.reduceSub, Int.reduceToNat, Int.reduceLE, Int.reduceLT, Int.reduceNeg, Int.reduceBEq, Int.reduceBNe, Nat.reduceMul, Int.reduceAdd, Int.reduceMul, Int.reduceSub, Int.reduceEq, Int.reduceNe]
        refine WQ_headA 3 (by omega) (by omega) ?_
        simp (maxSteps := 400000) only [fin1 (by rw [← m3, hb, hb2]; rfl), List.length_append, List.map_append, go_sem, ↓reduceIte, reduceCtorEq, Nat.reduceEqDiff, Nat.reduceAdd, Nat.reduceLT, Nat.reduceLeDiff, Nat.reduceSub, Int.reduceToNat, Int.reduceLE, Int.reduceLT, Int.reduceNeg, Int.reduceBEq, Int.reduceBNe, Nat.reduceMul, Int.reduceAdd, Int.reduceMul, Int.reduceSub, Int.reduceEq, Int.reduceNe]
    · simp (maxSteps := 400000) only [hl, go_sem, ↓reduceIte, reduceCtorEq, Nat.reduceEqDiff, Nat.reduceAdd, Nat.reduceLT, Nat.reduceLeDiff, Nat.reduceSub, Int.reduceToNat, Int.reduceLE, Int.reduceLT, Int.reduceNeg, Int.reduceBEq, Int.reduceBNe, Nat.reduceMul, Int.reduceAdd, Int.reduceMul, Int.reduceSub, Int.reduceEq, Int.reduceNe]
      refine WQ_headA 3 (by omega) (by omega) ?_
      simp (maxSteps := 400000) only [fin1 (by rw [← m3, hb]; rfl), List.length_append, List.map_append, go_sem, ↓reduceIte, reduceCtorEq, Nat.reduceEqDiff, Nat.reduceAdd, Nat.reduceLT, Nat.reduceLeDiff, Nat.reduceSub, Int.reduceToNat, Int.reduceLE, Int.reduceLT, Int.reduceNeg, Int.reduceBEq, Int.reduceBNe, Nat.reduceMul, Int.reduceAdd, Int.reduceMul, Int.reduceSub, Int.reduceEq, Int.reduceNe]
  · have hl := hlen 3
    have h1 : o 4 = o 3 ++ flagL (runsOver s c.diameter (mostB w x c)) 4 := by rw [← ho]; simp [outs]
    simp (maxSteps := 400000) only [go_sem, ↓reduceIte, reduceCtorEq, Nat.reduceEqDiff, Nat.reduceAdd, Nat.reduceLT, Nat.reduceLeDiff, Nat.reduceSub, Int.reduceToNat, Int.reduceLE, Int.reduceLT, Int.reduceNeg, Int.reduceBEq, Int.reduceBNe, Nat.reduceMul, Int.reduceAdd, Int.reduceMul, Int.reduceSub, Int.reduceEq, Int.reduceNe]
    refine WF_pure (cHas _ 4 false la) rfl ?_
    simp (maxSteps := 400000) only [p4, go_sem, ↓reduceIte, reduceCtorEq, Nat.reduceEqDiff, Nat.reduceAdd, Nat.reduceLT, Nat.reduceLeDiff, Nat.reduceSub, Int.reduceToNat, Int.reduceLE, Int.reduceLT, Int.reduceNeg, Int.reduceBEq, Int.reduceBNe, Nat.reduceMul, Int.reduceAdd, Int.reduceMul, Int.reduceSub, Int.reduceEq, Int.reduceNe]
    have fin0 : runsOver s c.diameter (mostB w x c) = false → o 4 = o 3 := fun hb => by rw [h1, hb]; simp [flagL]
    have fin1 : runsOver s c.diameter (mostB w x c) = true → o 4 = o 3 ++ [4] := fun hb => by rw [h1, hb]; rfl
    cases hb : runsOver s c.diameter (leastB w x c)
    · simp (maxSteps := 400000) only [go_sem, ↓reduceIte, reduceCtorEq, Nat.reduceEqDiff, Nat.reduceAdd, Nat.reduceLT, Nat.reduceLeDiff, Nat.reduceSub, Int.reduceToNat, Int.reduceLE, Int.reduceLT, Int.reduceNeg, Int.reduceBEq, Int.reduceBNe, Nat.reduceMul, Int.reduceAdd, Int.reduceMul, Int.reduceSub, Int.reduceEq, Int.reduceNe]
      refine WF_pure (cHas _ 4 false lb) rfl ?_
      simp (maxSteps := 400000) only [q4, go_sem, ↓reduceIte, reduceCtorEq, Nat.reduceEqDiff, Nat.reduceAdd, Nat.reduceLT, Nat.reduceLeDiff, Nat.reduceSub, Int.reduceToNat, Int.reduceLE, Int.reduceLT, Int.reduceNeg, Int.reduceBEq, Int.reduceBNe, Nat.reduceMul, Int.reduceAdd, Int.reduceMul, Int.reduceSub, Int.reduceEq, Int.reduceNe]
      cases hb2 : runsOver s c.diameter (mostB w x c)
      · simp (maxSteps := 400000) only [go_sem, ↓reduceIte, reduceCtorEq, Nat.reduceEqDiff, Nat.reduceAdd, Nat.reduceLT, Nat.reduceLeDiff, Nat.reduceSub, Int.reduceToNat, Int.reduceLE, Int.reduceLT, Int.reduceNeg, Int.reduceBEq, Int.reduceBNe, Nat.reduceMul, Int.reduceAdd, Int.reduceMul, Int.reduceSub, Int.reduceEq, Int.reduceNe]
        refine WQ_headA 4 (by omega) (by omega) ?_
        simp (maxSteps := 400000) only [fin0 (by rw [← m4, hb, hb2]; rfl), go_sem, ↓reduceIte, reduceCtorEq, Nat.reduceEqDiff, Nat.reduceAdd, Nat.reduceLT, Nat.reduceLeDiff, Nat.reduceSub, Int.reduceToNat, Int.reduceLE, Int.reduceLT, Int.reduceNeg, Int.reduceBEq, Int.reduceBNe, Nat.reduceMul, Int.reduceAdd, Int.reduceMul, Int.reduceSub, Int.reduceEq, Int.reduceNe]
      · simp (maxSteps := 400000) only [hl, go_sem, ↓reduceIte, reduceCtorEq, Nat.reduceEqDiff, Nat.reduceAdd, Nat.reduceLT, Nat.reduceLeDiff, Nat.reduceSub, Int.reduceToNat, Int.reduceLE, Int.reduceLT, Int.reduceNeg, Int.reduceBEq, Int.reduceBNe, Nat.reduceMul, Int.reduceAdd, Int.reduceMul, Int.reduceSub, Int.reduceEq, Int.reduceNe]
        refine WQ_headA 4 (by omega) (by omega) ?_
        simp (maxSteps := 400000) only [fin1 (by rw [← m4, hb, hb2]; rfl), List.length_append, List.map_append, go_sem, ↓reduceIte, reduceCtorEq, Nat.reduceEqDiff, Nat.reduceAdd, Nat.reduceLT, Nat.reduceLeDiff, Nat.reduceSub, Int.reduceToNat, Int.reduceLE, Int.reduceLT, Int.reduceNeg, Int.reduceBEq, Int.reduceBNe, Nat.reduceMul, Int.reduceAdd, Int.reduceMul, Int.reduceSub, Int.reduceEq, Int.reduceNe]
    · simp (maxSteps := 400000) only [hl, go_sem, ↓reduceIte, reduceCtorEq, Nat.reduceEqDiff, Nat.reduceAdd, Nat.reduceLT, Nat.reduceLeDiff, Nat.reduceSub, Int.reduceToNat, Int.reduceLE, Int.reduceLT, Int.reduceNeg, Int.reduceBEq, Int.reduceBNe, Nat.reduceMul, Int.reduceAdd, Int.reduceMul, Int.reduceSub, Int.reduceEq, Int.reduceNe]
      refine WQ_headA 4 (by omega) (by omega) ?_
      simp (maxSteps := 400000) only [fin1 (by rw [← m4, hb]; rfl), List.length_append, List.map_append, go_sem, ↓reduceIte, reduceCtorEq, Nat.reduceEqDiff, Nat.reduceAdd, Nat.reduceLT, Nat.reduceLeDiff, Nat.reduceSub, Int.reduceToNat, Int.reduceLE, Int.reduceLT, Int.reduceNeg, Int.reduceBEq, Int.reduceBNe, Nat.reduceMul, Int.reduceAdd, Int.reduceMul, Int.reduceSub, Int.reduceEq, Int.reduceNe]
  · have h4 : o 4 = faultsOf s c.diameter (leastB w x c) (mostB w x c) := by rw [← ho]; exact outs_end _ _ _ _
    simp (maxSteps := 400000) only [h4, intsPV, go_sem, ↓reduceIte, reduceCtorEq, Nat.reduceEqDiff, Nat.reduceAdd, Nat.reduceLT, Nat.reduceLeDiff, Nat.reduceSub, Int.reduceToNat, Int.reduceLE, Int.reduceLT, Int.reduceNeg, Int.reduceBEq, Int.reduceBNe, Nat.reduceMul, Int.reduceAdd, Int.reduceMul, Int.reduceSub, Int.reduceEq, Int.reduceNe]
    exact .inl (.inl rfl)

def faultsSpec (s : Shop) (k : Int) (c : Candle) (w : Wick) (x : Wax) : List Int × Int :=
  if askErr s [k] c = 0 then (faultsOf s c.diameter (leastB w x c) (mostB w x c), 0) else ([], askErr s [k] c)
theorem cWickFaults (s : Shop) (k : Int) (c : Candle) (w : Wick) (x : Wax) (h : askErr s [k] c = 0 → Site s c x ∧ SiteK s k w) :
    PCall Try.prog 23 [s.pv, .int .i64 k, c.pv] (.tuple [intsPV (faultsSpec s k c w x).1, .int .i64 (faultsSpec s k c w x).2]) := by
  refine pcall_of_wp_frzN draws (fn := Try.f23) (n := 24) (rs := [.tmp 6, .tmp 7]) (by kernel_rfl) rfl rfl rfl ok23 (Nat.le_of_ble_eq_true rfl) ?_
  simp (maxSteps := 400000) only [go_sem, ↓reduceIte, reduceCtorEq, Nat.reduceEqDiff, Nat.reduceAdd, Nat.reduceLT, Nat.reduceLeDiff, Nat.reduceSub, Int.reduceToNat, Int.reduceLE, Int.reduceLT, Int.reduceNeg, Int.reduceBEq, Int.reduceBNe, Nat.reduceMul, Int.reduceAdd, Int.reduceMul, Int.reduceSub, Int.reduceEq, Int.reduceNe]
  refine WF_pure (cOpen s c [k] true _ rfl (by simp) x (fun h0 => (h h0).1.hx)) rfl ?_
  simp (maxSteps := 400000) only [go_sem, ↓reduceIte, reduceCtorEq, Nat.reduceEqDiff, Nat.reduceAdd, Nat.reduceLT, Nat.reduceLeDiff, Nat.reduceSub, Int.reduceToNat, Int.reduceLE, Int.reduceLT, Int.reduceNeg, Int.reduceBEq, Int.reduceBNe, Nat.reduceMul, Int.reduceAdd, Int.reduceMul, Int.reduceSub, Int.reduceEq, Int.reduceNe]
  cases h0 : (askErr s [k] c != 0)
  rotate_left
  · have h0' : ¬ askErr s [k] c = 0 := by simpa using h0
    simp (maxSteps := 400000) only [faultsSpec, if_neg h0', intsPV, go_sem, ↓reduceIte, reduceCtorEq, Nat.reduceEqDiff, Nat.reduceAdd, Nat.reduceLT, Nat.reduceLeDiff, Nat.reduceSub, Int.reduceToNat, Int.reduceLE, Int.reduceLT, Int.reduceNeg, Int.reduceBEq, Int.reduceBNe, Nat.reduceMul, Int.reduceAdd, Int.reduceMul, Int.reduceSub, Int.reduceEq, Int.reduceNe]
    exact .inr ⟨_, _, rfl, rfl, .inr ⟨rfl, 1, rfl⟩, .inl rfl, trivial⟩
  have h0' : askErr s [k] c = 0 := by simpa using h0
  obtain ⟨hs, hk⟩ := h h0'
  simp (maxSteps := 400000) only [if_pos h0', go_sem, ↓reduceIte, reduceCtorEq, Nat.reduceEqDiff, Nat.reduceAdd, Nat.reduceLT, Nat.reduceLeDiff, Nat.reduceSub, Int.reduceToNat, Int.reduceLE, Int.reduceLT, Int.reduceNeg, Int.reduceBEq, Int.reduceBNe, Nat.reduceMul, Int.reduceAdd, Int.reduceMul, Int.reduceSub, Int.reduceEq, Int.reduceNe]
  refine WF_pure (cFaultsIn s c x k w hs hk) rfl ?_
  simp (maxSteps := 400000) only [faultsSpec, if_pos h0', intsPV, go_sem, ↓reduceIte, reduceCtorEq, Nat.reduceEqDiff, Nat.reduceAdd, Nat.reduceLT, Nat.reduceLeDiff, Nat.reduceSub, Int.reduceToNat, Int.reduceLE, Int.reduceLT, Int.reduceNeg, Int.reduceBEq, Int.reduceBNe, Nat.reduceMul, Int.reduceAdd, Int.reduceMul, Int.reduceSub, Int.reduceEq, Int.reduceNe]
theorem cRefFaults (s : Shop) (k : Int) (c : Candle) (w : Wick) (x : Wax) (h : askErr s [k] c = 0 → Site s c x ∧ SiteK s k w) :
    PCall Try.prog 24 [s.pv, .int .i64 k, c.pv] (.tuple [intsPV (faultsSpec s k c w x).1, .int .i64 (faultsSpec s k c w x).2]) := by
  refine pcall_of_wp_frzN draws (fn := Try.f24) (n := 20) (rs := [.tmp 6, .tmp 7]) (by kernel_rfl) rfl rfl rfl ok24 (Nat.le_of_ble_eq_true rfl) ?_
  simp (maxSteps := 400000) only [go_sem, ↓reduceIte, reduceCtorEq, Nat.reduceEqDiff, Nat.reduceAdd, Nat.reduceLT, Nat.reduceLeDiff, Nat.reduceSub, Int.reduceToNat, Int.reduceLE, Int.reduceLT, Int.reduceNeg, Int.reduceBEq, Int.reduceBNe, Nat.reduceMul, Int.reduceAdd, Int.reduceMul, Int.reduceSub, Int.reduceEq, Int.reduceNe]
  refine WF_pure (cRefAsked s k c) rfl ?_
  simp (maxSteps := 400000) only [go_sem, ↓reduceIte, reduceCtorEq, Nat.reduceEqDiff, Nat.reduceAdd, Nat.reduceLT, Nat.reduceLeDiff, Nat.reduceSub, Int.reduceToNat, Int.reduceLE, Int.reduceLT, Int.reduceNeg, Int.reduceBEq, Int.reduceBNe, Nat.reduceMul, Int.reduceAdd, Int.reduceMul, Int.reduceSub, Int.reduceEq, Int.reduceNe]
  cases h0 : (askErr s [k] c != 0)
  rotate_left
  · have h0' : ¬ askErr s [k] c = 0 := by simpa using h0
    simp (maxSteps := 400000) only [faultsSpec, if_neg h0', intsPV, go_sem, ↓reduceIte, reduceCtorEq, Nat.reduceEqDiff, Nat.reduceAdd, Nat.reduceLT, Nat.reduceLeDiff, Nat.reduceSub, Int.reduceToNat, Int.reduceLE, Int.reduceLT, Int.reduceNeg, Int.reduceBEq, Int.reduceBNe, Nat.reduceMul, Int.reduceAdd, Int.reduceMul, Int.reduceSub, Int.reduceEq, Int.reduceNe]
    exact .inr ⟨_, _, rfl, rfl, .inr ⟨rfl, 1, rfl⟩, .inl rfl, trivial⟩
  have h0' : askErr s [k] c = 0 := by simpa using h0
  obtain ⟨hs, hk⟩ := h h0'
  simp (maxSteps := 400000) only [go_sem, ↓reduceIte, reduceCtorEq, Nat.reduceEqDiff, Nat.reduceAdd, Nat.reduceLT, Nat.reduceLeDiff, Nat.reduceSub, Int.reduceToNat, Int.reduceLE, Int.reduceLT, Int.reduceNeg, Int.reduceBEq, Int.reduceBNe, Nat.reduceMul, Int.reduceAdd, Int.reduceMul, Int.reduceSub, Int.reduceEq, Int.reduceNe]
  refine WF_pure (cListed s c x k w hs hk) rfl ?_
  simp (maxSteps := 400000) only [faultsSpec, if_pos h0', intsPV, go_sem, ↓reduceIte, reduceCtorEq, Nat.reduceEqDiff, Nat.reduceAdd, Nat.reduceLT, Nat.reduceLeDiff, Nat.reduceSub, Int.reduceToNat, Int.reduceLE, Int.reduceLT, Int.reduceNeg, Int.reduceBEq, Int.reduceBNe, Nat.reduceMul, Int.reduceAdd, Int.reduceMul, Int.reduceSub, Int.reduceEq, Int.reduceNe]

end Abs
end Go.Proofs.Ytdgmmijimclooaa
