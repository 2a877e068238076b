/-
  CONTRACTS OF THE LAWS: WickBounds.
-/
import Derived.Test.YtdgmmijimclooaaWkLaw3
namespace Go.Proofs.Ytdgmmijimclooaa
namespace Abs
set_option linter.unusedSimpArgs false
set_option maxRecDepth 4000

theorem any_mem {l : List Int} {n : Int} : (l.any fun m => m == n) = true ↔ n ∈ l := by simp
theorem mem_wrong {s : Shop} {d : Int} {b : Burn} {n : Int} : n ∈ wrongOf s d b ↔ (n = 1 ∧ smokes s b = true) ∨ (n = 2 ∧ goesOut s b = true) ∨ (n = 3 ∧ tunnels s d b = true) ∨ (n = 4 ∧ runsOver s d b = true) := by
  unfold wrongOf flagL
  cases smokes s b <;> cases goesOut s b <;> cases tunnels s d b <;> cases runsOver s d b <;> simp
theorem mem_faults {s : Shop} {d : Int} {l m : Burn} {n : Int} : n ∈ faultsOf s d l m ↔ (n = 1 ∧ smokes s m = true) ∨ (n = 2 ∧ goesOut s l = true) ∨ (n = 3 ∧ tunnels s d l = true) ∨ (n = 4 ∧ runsOver s d m = true) := by
  unfold faultsOf flagL
  cases smokes s m <;> cases goesOut s l <;> cases tunnels s d l <;> cases runsOver s d m <;> simp
theorem faults_sorted (s : Shop) (d : Int) (l m : Burn) : (faultsOf s d l m).Pairwise (· < ·) := by
  unfold faultsOf flagL
  cases smokes s m <;> cases goesOut s l <;> cases tunnels s d l <;> cases runsOver s d m <;> decide
theorem faults_len4 (s : Shop) (d : Int) (l m : Burn) : (faultsOf s d l m).length ≤ 4 := by
  unfold faultsOf flagL
  cases smokes s m <;> cases goesOut s l <;> cases tunnels s d l <;> cases runsOver s d m <;> decide
theorem wrong_len4 (s : Shop) (d : Int) (b : Burn) : (wrongOf s d b).length ≤ 4 := by
  unfold wrongOf flagL
  cases smokes s b <;> cases goesOut s b <;> cases tunnels s d b <;> cases runsOver s d b <;> decide
theorem wrong_in {s : Shop} {d : Int} {l m b : Burn} (h1 : l.flame ≤ b.flame) (h2 : l.pool ≤ b.pool) (h3 : b.flame ≤ m.flame) (h4 : b.pool ≤ m.pool) {n : Int} (hn : n ∈ wrongOf s d b) : n ∈ faultsOf s d l m := by
  rw [mem_wrong] at hn
  rw [mem_faults]
  unfold smokes goesOut tunnels runsOver at *
  simp only [decide_eq_true_eq] at *
  rcases hn with ⟨h, h'⟩ | ⟨h, h'⟩ | ⟨h, h'⟩ | ⟨h, h'⟩ <;> omega
theorem fault_some {s : Shop} {d : Int} {l m : Burn} {n : Int} (hn : n ∈ faultsOf s d l m) : n ∈ wrongOf s d l ∨ n ∈ wrongOf s d m := by
  rw [mem_faults] at hn
  rw [mem_wrong, mem_wrong]
  rcases hn with ⟨h, h'⟩ | ⟨h, h'⟩ | ⟨h, h'⟩ | ⟨h, h'⟩ <;> simp [h, h']
theorem sorted_at {l a r : List Int} {x y : Int} (h : l.Pairwise (· < ·)) (e : l = a ++ [x] ++ y :: r) : ¬ y ≤ x := by
  rw [e, List.append_assoc, List.pairwise_append] at h
  have := (List.pairwise_append.1 h.2.1).2.2 x (by simp) y (by simp)
  omega
theorem suits_at {s : Shop} {c : Candle} {x : Wax} {k : Int} {w : Wick} (g : Good s c x k w) : ((suitsGo s c x s.wicks 0).any fun m => m == k) = okW s c x w := by
  rw [Bool.eq_iff_iff, any_mem, mem_suits]
  constructor
  · rintro ⟨j, v, h1, h2, h3⟩
    have e : k.toNat = j := by omega
    have hw := g.k.hw
    rw [e, h1] at hw
    cases hw
    exact h2
  · intro h
    exact ⟨k.toNat, w, g.k.hw, h, by have := g.k.k0; omega⟩

theorem lBounds (s : Shop) (c : Candle) (y : BurntX) : PCall Try.prog 8 [s.pv, c.pv, y.pv] (.bool true) := by
  refine pcall_of_wp draws (fn := Try.f8) (n := 171) (rs := [.tmp 6]) (by kernel_rfl) rfl rfl rfl ok8 (Nat.le_of_ble_eq_true rfl) ?_
  simp (config := { maxSteps := 400000 }) only [H8, W_drawH, BurntX.pv, go_sem, ↓reduceIte, reduceCtorEq, Nat.reduceEqDiff, Nat.reduceAdd, Nat.reduceLT, Nat.reduceLeDiff, Nat.reduceSub, Int.reduceToNat, Int.reduceLE, Int.reduceLT, Int.reduceNeg, Int.reduceBEq, Int.reduceBNe, Nat.reduceMul, Int.reduceAdd, Int.reduceMul, Int.reduceSub, Int.reduceEq, Int.reduceNe]
  refine WF_pure (cRefCandle s c) rfl ?_
  by_cases h0 : askErr s [] c = 0
  rotate_left
  · have h1 : (askErr s [] c != 0) = true := by simpa using h0
    simp (config := { maxSteps := 400000 }) only [H8, W_drawH, h1, go_sem, ↓reduceIte, reduceCtorEq, Nat.reduceEqDiff, Nat.reduceAdd, Nat.reduceLT, Nat.reduceLeDiff, Nat.reduceSub, Int.reduceToNat, Int.reduceLE, Int.reduceLT, Int.reduceNeg, Int.reduceBEq, Int.reduceBNe, Nat.reduceMul, Int.reduceAdd, Int.reduceMul, Int.reduceSub, Int.reduceEq, Int.reduceNe]
    refine WF_pure cAwake rfl ?_
    simp (config := { maxSteps := 400000 }) only [H8, W_drawH, go_sem, ↓reduceIte, reduceCtorEq, Nat.reduceEqDiff, Nat.reduceAdd, Nat.reduceLT, Nat.reduceLeDiff, Nat.reduceSub, Int.reduceToNat, Int.reduceLE, Int.reduceLT, Int.reduceNeg, Int.reduceBEq, Int.reduceBNe, Nat.reduceMul, Int.reduceAdd, Int.reduceMul, Int.reduceSub, Int.reduceEq, Int.reduceNe]
  have h1 : (askErr s [] c != 0) = false := by simpa using h0
  obtain ⟨x, hs⟩ := siteC_of h0
  have lw := hs.so.lw
  obtain ⟨m0, m1, m2, m3⟩ := wick_mod hs y.hk.1
  have wk : IntKind.i64.wrap y.k = y.k := wrap_in (by have := y.hk; omega) (by have := y.hk; omega)
  generalize hK : y.k % (s.wicks.length : Int) = k at m0 m1 m2
  obtain ⟨w, g⟩ := good_of h0 hs m1 m2
  simp (config := { maxSteps := 400000 }) only [H8, W_drawH, h1, wk, m0, m3, go_sem, ↓reduceIte, reduceCtorEq, Nat.reduceEqDiff, Nat.reduceAdd, Nat.reduceLT, Nat.reduceLeDiff, Nat.reduceSub, Int.reduceToNat, Int.reduceLE, Int.reduceLT, Int.reduceNeg, Int.reduceBEq, Int.reduceBNe, Nat.reduceMul, Int.reduceAdd, Int.reduceMul, Int.reduceSub, Int.reduceEq, Int.reduceNe]
  have b := g.between (truth_true g.k.wo g.s.xo g.s.co y)
  have hA := suits_at g
  have hAl := suits_len s c x s.wicks 0
  have pS := g.pSuits
  have pF := g.pFaults
  have pT := g.pAt (truth_true g.k.wo g.s.xo g.s.co y)
  have pL := g.pAt g.least
  have pM := g.pAt g.most
  have pU := cTruth s c x k w y g.s g.k
  have pE := cRefEnds s c x k w g.s g.k
  have oT : BOk (burnOf x.chill (truthOf w x c y)) := bok_of (tok_of g.k.wo g.s.xo g.s.co (truth_true g.k.wo g.s.xo g.s.co y)) g.s.xo.c
  have oL : BOk (burnOf x.chill (leastT w x c)) := bok_of (tok_of g.k.wo g.s.xo g.s.co g.least) g.s.xo.c
  have oM : BOk (burnOf x.chill (mostT w x c)) := bok_of (tok_of g.k.wo g.s.xo g.s.co g.most) g.s.xo.c
  have pWT := cWrong s c _ hs.so hs.co oT
  have pWL := cWrong s c _ hs.so hs.co oL
  have pWM := cWrong s c _ hs.so hs.co oM
  have hok : ((((faultsOf s c.diameter (leastB w x c) (mostB w x c)).length : Nat) : Int) == 0) = okW s c x w := by
    unfold okW
    rw [Bool.eq_iff_iff]; simp
  have eL : burnOf x.chill (leastT w x c) = leastB w x c := rfl
  have eM : burnOf x.chill (mostT w x c) = mostB w x c := rfl
  rw [eL] at pL pWL
  rw [eM] at pM pWM
  have hin : ∀ n, n ∈ wrongOf s c.diameter (burnOf x.chill (truthOf w x c y)) → n ∈ faultsOf s c.diameter (leastB w x c) (mostB w x c) := fun n hn => wrong_in b.1.2.1 b.1.2.2 b.2.2.1 b.2.2.2 hn
  have hso : ∀ n, n ∈ faultsOf s c.diameter (leastB w x c) (mostB w x c) → n ∈ wrongOf s c.diameter (leastB w x c) ∨ n ∈ wrongOf s c.diameter (mostB w x c) := fun n hn => fault_some hn
  have hsd := faults_sorted s c.diameter (leastB w x c) (mostB w x c)
  have fl := faults_len4 s c.diameter (leastB w x c) (mostB w x c)
  have tl4 := wrong_len4 s c.diameter (burnOf x.chill (truthOf w x c y))
  have ll4 := wrong_len4 s c.diameter (leastB w x c)
  have ml4 := wrong_len4 s c.diameter (mostB w x c)
  clear b eL eM oT oL oM
  generalize wrongOf s c.diameter (burnOf x.chill (truthOf w x c y)) = wt at *
  generalize wrongOf s c.diameter (leastB w x c) = wl at *
  generalize wrongOf s c.diameter (mostB w x c) = wm at *
  generalize faultsOf s c.diameter (leastB w x c) (mostB w x c) = f at *
  generalize leastB w x c = l at *
  generalize mostB w x c = m at *
  generalize burnOf x.chill (truthOf w x c y) = d at *
  generalize truthOf w x c y = t at *
  generalize leastT w x c = tl at *
  generalize mostT w x c = tm at *
  generalize okW s c x w = ok at *
  generalize suitsGo s c x s.wicks 0 = su at *
  refine WF_pure pF rfl ?_
  simp (config := { maxSteps := 400000 }) only [H8, W_drawH, go_sem, ↓reduceIte, reduceCtorEq, Nat.reduceEqDiff, Nat.reduceAdd, Nat.reduceLT, Nat.reduceLeDiff, Nat.reduceSub, Int.reduceToNat, Int.reduceLE, Int.reduceLT, Int.reduceNeg, Int.reduceBEq, Int.reduceBNe, Nat.reduceMul, Int.reduceAdd, Int.reduceMul, Int.reduceSub, Int.reduceEq, Int.reduceNe]
  refine WF_pure pS rfl ?_
  simp (config := { maxSteps := 400000 }) only [H8, W_drawH, go_sem, ↓reduceIte, reduceCtorEq, Nat.reduceEqDiff, Nat.reduceAdd, Nat.reduceLT, Nat.reduceLeDiff, Nat.reduceSub, Int.reduceToNat, Int.reduceLE, Int.reduceLT, Int.reduceNeg, Int.reduceBEq, Int.reduceBNe, Nat.reduceMul, Int.reduceAdd, Int.reduceMul, Int.reduceSub, Int.reduceEq, Int.reduceNe]
  refine WDQ_pure pU rfl ?_
  simp (config := { maxSteps := 400000 }) only [H8, W_drawH, go_sem, ↓reduceIte, reduceCtorEq, Nat.reduceEqDiff, Nat.reduceAdd, Nat.reduceLT, Nat.reduceLeDiff, Nat.reduceSub, Int.reduceToNat, Int.reduceLE, Int.reduceLT, Int.reduceNeg, Int.reduceBEq, Int.reduceBNe, Nat.reduceMul, Int.reduceAdd, Int.reduceMul, Int.reduceSub, Int.reduceEq, Int.reduceNe]
  refine WDQ_pure pT rfl ?_
  simp (config := { maxSteps := 400000 }) only [H8, W_drawH, go_sem, ↓reduceIte, reduceCtorEq, Nat.reduceEqDiff, Nat.reduceAdd, Nat.reduceLT, Nat.reduceLeDiff, Nat.reduceSub, Int.reduceToNat, Int.reduceLE, Int.reduceLT, Int.reduceNeg, Int.reduceBEq, Int.reduceBNe, Nat.reduceMul, Int.reduceAdd, Int.reduceMul, Int.reduceSub, Int.reduceEq, Int.reduceNe]
  refine WF_pure (cHas su k false (by omega)) rfl ?_
  simp (config := { maxSteps := 400000 }) only [H8, W_drawH, intsPV, hok, hA, bne_self_eq_false, beq_self_eq_true, go_sem, ↓reduceIte, reduceCtorEq, Nat.reduceEqDiff, Nat.reduceAdd, Nat.reduceLT, Nat.reduceLeDiff, Nat.reduceSub, Int.reduceToNat, Int.reduceLE, Int.reduceLT, Int.reduceNeg, Int.reduceBEq, Int.reduceBNe, Nat.reduceMul, Int.reduceAdd, Int.reduceMul, Int.reduceSub, Int.reduceEq, Int.reduceNe]
  refine WF_pure pWT rfl ?_
  simp (config := { maxSteps := 400000 }) only [H8, W_drawH, intsPV, go_sem, ↓reduceIte, reduceCtorEq, Nat.reduceEqDiff, Nat.reduceAdd, Nat.reduceLT, Nat.reduceLeDiff, Nat.reduceSub, Int.reduceToNat, Int.reduceLE, Int.reduceLT, Int.reduceNeg, Int.reduceBEq, Int.reduceBNe, Nat.reduceMul, Int.reduceAdd, Int.reduceMul, Int.reduceSub, Int.reduceEq, Int.reduceNe]
  refine W_loopH [3, 4, 7, 8, 14] (σ := List Int × List Int) (fun q => wt = q.1 ++ q.2) (fun q => q.2.length) (fun q => [(15, .p (.int .i64 q.1.length))]) ([], wt) (List.nil_append wt).symm ?_ ?_
  · simp (config := { maxSteps := 400000 }) only [H8, W_drawH, go_sem, ↓reduceIte, reduceCtorEq, Nat.reduceEqDiff, Nat.reduceAdd, Nat.reduceLT, Nat.reduceLeDiff, Nat.reduceSub, Int.reduceToNat, Int.reduceLE, Int.reduceLT, Int.reduceNeg, Int.reduceBEq, Int.reduceBNe, Nat.reduceMul, Int.reduceAdd, Int.reduceMul, Int.reduceSub, Int.reduceEq, Int.reduceNe]
  rintro ⟨done, rest⟩ e1
  dsimp only at e1
  cases rest with
  | cons n r =>
    obtain ⟨hxx, hlt⟩ := list_at e1
    have hnx : IntKind.i64.wrap ((done.length : Int) + 1) = (((done ++ [n]).length : Nat) : Int) := wrap_add (by omega) (by simp [room]; omega) (by simp)
    have hn : (f.any fun m => m == n) = true := any_mem.2 (hin n (by rw [e1]; simp))
    simp (config := { maxSteps := 400000 }) only [H8, W_drawH, hlt, hxx, intsPV, intPV, go_sem, ↓reduceIte, reduceCtorEq, Nat.reduceEqDiff, Nat.reduceAdd, Nat.reduceLT, Nat.reduceLeDiff, Nat.reduceSub, Int.reduceToNat, Int.reduceLE, Int.reduceLT, Int.reduceNeg, Int.reduceBEq, Int.reduceBNe, Nat.reduceMul, Int.reduceAdd, Int.reduceMul, Int.reduceSub, Int.reduceEq, Int.reduceNe]
    refine WF_pure (cHas f n false (by omega)) rfl ?_
    simp (config := { maxSteps := 400000 }) only [H8, W_drawH, hn, go_sem, ↓reduceIte, reduceCtorEq, Nat.reduceEqDiff, Nat.reduceAdd, Nat.reduceLT, Nat.reduceLeDiff, Nat.reduceSub, Int.reduceToNat, Int.reduceLE, Int.reduceLT, Int.reduceNeg, Int.reduceBEq, Int.reduceBNe, Nat.reduceMul, Int.reduceAdd, Int.reduceMul, Int.reduceSub, Int.reduceEq, Int.reduceNe]
    refine WQ_headA (done ++ [n], r) (by simp [e1]) (by simp) ?_
    simp (config := { maxSteps := 400000 }) only [hnx, intsPV, go_sem, ↓reduceIte, reduceCtorEq, Nat.reduceEqDiff, Nat.reduceAdd, Nat.reduceLT, Nat.reduceLeDiff, Nat.reduceSub, Int.reduceToNat, Int.reduceLE, Int.reduceLT, Int.reduceNeg, Int.reduceBEq, Int.reduceBNe, Nat.reduceMul, Int.reduceAdd, Int.reduceMul, Int.reduceSub, Int.reduceEq, Int.reduceNe]
  | nil =>
    have hlt : ¬ ((done.length : Int) < (wt.length : Int)) := by rw [e1]; simp
    simp (config := { maxSteps := 400000 }) only [H8, W_drawH, hlt, intsPV, go_sem, ↓reduceIte, reduceCtorEq, Nat.reduceEqDiff, Nat.reduceAdd, Nat.reduceLT, Nat.reduceLeDiff, Nat.reduceSub, Int.reduceToNat, Int.reduceLE, Int.reduceLT, Int.reduceNeg, Int.reduceBEq, Int.reduceBNe, Nat.reduceMul, Int.reduceAdd, Int.reduceMul, Int.reduceSub, Int.reduceEq, Int.reduceNe]
    refine WF_pure pE rfl ?_
    simp (config := { maxSteps := 400000 }) only [H8, W_drawH, go_sem, ↓reduceIte, reduceCtorEq, Nat.reduceEqDiff, Nat.reduceAdd, Nat.reduceLT, Nat.reduceLeDiff, Nat.reduceSub, Int.reduceToNat, Int.reduceLE, Int.reduceLT, Int.reduceNeg, Int.reduceBEq, Int.reduceBNe, Nat.reduceMul, Int.reduceAdd, Int.reduceMul, Int.reduceSub, Int.reduceEq, Int.reduceNe]
    refine WF_pure pL rfl ?_
    simp (config := { maxSteps := 400000 }) only [H8, W_drawH, go_sem, ↓reduceIte, reduceCtorEq, Nat.reduceEqDiff, Nat.reduceAdd, Nat.reduceLT, Nat.reduceLeDiff, Nat.reduceSub, Int.reduceToNat, Int.reduceLE, Int.reduceLT, Int.reduceNeg, Int.reduceBEq, Int.reduceBNe, Nat.reduceMul, Int.reduceAdd, Int.reduceMul, Int.reduceSub, Int.reduceEq, Int.reduceNe]
    refine WF_pure pM rfl ?_
    simp (config := { maxSteps := 400000 }) only [H8, W_drawH, go_sem, ↓reduceIte, reduceCtorEq, Nat.reduceEqDiff, Nat.reduceAdd, Nat.reduceLT, Nat.reduceLeDiff, Nat.reduceSub, Int.reduceToNat, Int.reduceLE, Int.reduceLT, Int.reduceNeg, Int.reduceBEq, Int.reduceBNe, Nat.reduceMul, Int.reduceAdd, Int.reduceMul, Int.reduceSub, Int.reduceEq, Int.reduceNe]
    refine W_loopH [3, 4, 8, 9, 11, 18, 19] (σ := List Int × List Int) (fun q => f = q.1 ++ q.2) (fun q => q.2.length) (fun q => [(20, .p (.int .i64 q.1.length))]) ([], f) (List.nil_append f).symm ?_ ?_
    · simp (config := { maxSteps := 400000 }) only [H8, W_drawH, go_sem, ↓reduceIte, reduceCtorEq, Nat.reduceEqDiff, Nat.reduceAdd, Nat.reduceLT, Nat.reduceLeDiff, Nat.reduceSub, Int.reduceToNat, Int.reduceLE, Int.reduceLT, Int.reduceNeg, Int.reduceBEq, Int.reduceBNe, Nat.reduceMul, Int.reduceAdd, Int.reduceMul, Int.reduceSub, Int.reduceEq, Int.reduceNe]
    rintro ⟨done, rest⟩ e1
    dsimp only at e1
    cases rest with
    | nil =>
      have hlt : ¬ ((done.length : Int) < (f.length : Int)) := by rw [e1]; simp
      simp (config := { maxSteps := 400000 }) only [H8, W_drawH, hlt, go_sem, ↓reduceIte, reduceCtorEq, Nat.reduceEqDiff, Nat.reduceAdd, Nat.reduceLT, Nat.reduceLeDiff, Nat.reduceSub, Int.reduceToNat, Int.reduceLE, Int.reduceLT, Int.reduceNeg, Int.reduceBEq, Int.reduceBNe, Nat.reduceMul, Int.reduceAdd, Int.reduceMul, Int.reduceSub, Int.reduceEq, Int.reduceNe]
      refine WF_pure cAwake rfl ?_
      simp (config := { maxSteps := 400000 }) only [H8, W_drawH, go_sem, ↓reduceIte, reduceCtorEq, Nat.reduceEqDiff, Nat.reduceAdd, Nat.reduceLT, Nat.reduceLeDiff, Nat.reduceSub, Int.reduceToNat, Int.reduceLE, Int.reduceLT, Int.reduceNeg, Int.reduceBEq, Int.reduceBNe, Nat.reduceMul, Int.reduceAdd, Int.reduceMul, Int.reduceSub, Int.reduceEq, Int.reduceNe]
    | cons n r =>
      obtain ⟨hxx, hlt⟩ := list_at e1
      have hnx : IntKind.i64.wrap ((done.length : Int) + 1) = (((done ++ [n]).length : Nat) : Int) := wrap_add (by omega) (by simp [room]; omega) (by simp)
      have hw := hso n (by rw [e1]; simp)
      rw [← any_mem, ← any_mem] at hw
      -- the one ahead is less
      have hz : decide (0 < (done.length : Int)) = false ∨ ∃ (j : Nat) (a : Int), decide (0 < (done.length : Int)) = true ∧ IntKind.i64.wrap ((done.length : Int) - 1) = (j : Int) ∧ f[j]? = some a ∧ (j : Int) < (f.length : Int) ∧ ¬ n ≤ a := by
        rcases List.eq_nil_or_concat done with rfl | ⟨d', a, rfl⟩
        · exact .inl rfl
        · refine .inr ⟨d'.length, a, ?_, ?_, ?_, ?_, ?_⟩
          · simp <;> omega
          · rw [List.concat_eq_append, List.length_append, List.length_singleton]
            rw [show (((d'.length + 1 : Nat) : Int) - 1) = (d'.length : Int) by omega]
            refine wrap_in (by omega) ?_
            rw [e1] at fl
            simp at fl
            omega
          · rw [e1]; simp
          · rw [e1]; simp <;> omega
          · exact sorted_at hsd (by rw [e1, List.concat_eq_append])
      rcases hz with hz | ⟨j, a, hz, hj1, hj2, hj3, hj4⟩
      · simp (config := { maxSteps := 400000 }) only [H8, W_drawH, hlt, hxx, hz, intPV, List.append_eq, go_sem, ↓reduceIte, reduceCtorEq, Nat.reduceEqDiff, Nat.reduceAdd, Nat.reduceLT, Nat.reduceLeDiff, Nat.reduceSub, Int.reduceToNat, Int.reduceLE, Int.reduceLT, Int.reduceNeg, Int.reduceBEq, Int.reduceBNe, Nat.reduceMul, Int.reduceAdd, Int.reduceMul, Int.reduceSub, Int.reduceEq, Int.reduceNe]
        refine WDQ_pure pWL rfl ?_
        simp (config := { maxSteps := 400000 }) only [H8, W_drawH, hlt, hxx, intsPV, intPV, List.append_eq, go_sem, ↓reduceIte, reduceCtorEq, Nat.reduceEqDiff, Nat.reduceAdd, Nat.reduceLT, Nat.reduceLeDiff, Nat.reduceSub, Int.reduceToNat, Int.reduceLE, Int.reduceLT, Int.reduceNeg, Int.reduceBEq, Int.reduceBNe, Nat.reduceMul, Int.reduceAdd, Int.reduceMul, Int.reduceSub, Int.reduceEq, Int.reduceNe]
        refine WDQ_pure (cHas wl n false (by omega)) rfl ?_
        cases hwl : wl.any fun m => m == n
        · have hwm : (wm.any fun m => m == n) = true := by
            rcases hw with h | h
            · rw [hwl] at h; cases h
            · exact h
          simp (config := { maxSteps := 400000 }) only [H8, W_drawH, hlt, hxx, intPV, List.append_eq, go_sem, ↓reduceIte, reduceCtorEq, Nat.reduceEqDiff, Nat.reduceAdd, Nat.reduceLT, Nat.reduceLeDiff, Nat.reduceSub, Int.reduceToNat, Int.reduceLE, Int.reduceLT, Int.reduceNeg, Int.reduceBEq, Int.reduceBNe, Nat.reduceMul, Int.reduceAdd, Int.reduceMul, Int.reduceSub, Int.reduceEq, Int.reduceNe]
          refine WDQ_pure pWM rfl ?_
          simp (config := { maxSteps := 400000 }) only [H8, W_drawH, hlt, hxx, intsPV, intPV, List.append_eq, go_sem, ↓reduceIte, reduceCtorEq, Nat.reduceEqDiff, Nat.reduceAdd, Nat.reduceLT, Nat.reduceLeDiff, Nat.reduceSub, Int.reduceToNat, Int.reduceLE, Int.reduceLT, Int.reduceNeg, Int.reduceBEq, Int.reduceBNe, Nat.reduceMul, Int.reduceAdd, Int.reduceMul, Int.reduceSub, Int.reduceEq, Int.reduceNe]
          refine WDQ_pure (cHas wm n false (by omega)) rfl ?_
          simp (config := { maxSteps := 400000 }) only [H8, W_drawH, hwm, List.append_eq, go_sem, ↓reduceIte, reduceCtorEq, Nat.reduceEqDiff, Nat.reduceAdd, Nat.reduceLT, Nat.reduceLeDiff, Nat.reduceSub, Int.reduceToNat, Int.reduceLE, Int.reduceLT, Int.reduceNeg, Int.reduceBEq, Int.reduceBNe, Nat.reduceMul, Int.reduceAdd, Int.reduceMul, Int.reduceSub, Int.reduceEq, Int.reduceNe]
          refine WQ_headA (done ++ [n], r) (by simp [e1]) (by simp) ?_
          simp (config := { maxSteps := 400000 }) only [hnx, go_sem, ↓reduceIte, reduceCtorEq, Nat.reduceEqDiff, Nat.reduceAdd, Nat.reduceLT, Nat.reduceLeDiff, Nat.reduceSub, Int.reduceToNat, Int.reduceLE, Int.reduceLT, Int.reduceNeg, Int.reduceBEq, Int.reduceBNe, Nat.reduceMul, Int.reduceAdd, Int.reduceMul, Int.reduceSub, Int.reduceEq, Int.reduceNe]
        · simp (config := { maxSteps := 400000 }) only [H8, W_drawH, hlt, hxx, intPV, List.append_eq, go_sem, ↓reduceIte, reduceCtorEq, Nat.reduceEqDiff, Nat.reduceAdd, Nat.reduceLT, Nat.reduceLeDiff, Nat.reduceSub, Int.reduceToNat, Int.reduceLE, Int.reduceLT, Int.reduceNeg, Int.reduceBEq, Int.reduceBNe, Nat.reduceMul, Int.reduceAdd, Int.reduceMul, Int.reduceSub, Int.reduceEq, Int.reduceNe]
          refine WQ_headA (done ++ [n], r) (by simp [e1]) (by simp) ?_
          simp (config := { maxSteps := 400000 }) only [hnx, go_sem, ↓reduceIte, reduceCtorEq, Nat.reduceEqDiff, Nat.reduceAdd, Nat.reduceLT, Nat.reduceLeDiff, Nat.reduceSub, Int.reduceToNat, Int.reduceLE, Int.reduceLT, Int.reduceNeg, Int.reduceBEq, Int.reduceBNe, Nat.reduceMul, Int.reduceAdd, Int.reduceMul, Int.reduceSub, Int.reduceEq, Int.reduceNe]
      · simp (config := { maxSteps := 400000 }) only [H8, W_drawH, hlt, hxx, hz, hj1, hj2, hj3, hj4, intPV, List.append_eq, go_sem, ↓reduceIte, reduceCtorEq, Nat.reduceEqDiff, Nat.reduceAdd, Nat.reduceLT, Nat.reduceLeDiff, Nat.reduceSub, Int.reduceToNat, Int.reduceLE, Int.reduceLT, Int.reduceNeg, Int.reduceBEq, Int.reduceBNe, Nat.reduceMul, Int.reduceAdd, Int.reduceMul, Int.reduceSub, Int.reduceEq, Int.reduceNe]
        refine WDQ_pure pWL rfl ?_
        simp (config := { maxSteps := 400000 }) only [H8, W_drawH, hlt, hxx, intsPV, intPV, List.append_eq, go_sem, ↓reduceIte, reduceCtorEq, Nat.reduceEqDiff, Nat.reduceAdd, Nat.reduceLT, Nat.reduceLeDiff, Nat.reduceSub, Int.reduceToNat, Int.reduceLE, Int.reduceLT, Int.reduceNeg, Int.reduceBEq, Int.reduceBNe, Nat.reduceMul, Int.reduceAdd, Int.reduceMul, Int.reduceSub, Int.reduceEq, Int.reduceNe]
        refine WDQ_pure (cHas wl n false (by omega)) rfl ?_
        cases hwl : wl.any fun m => m == n
        · have hwm : (wm.any fun m => m == n) = true := by
            rcases hw with h | h
            · rw [hwl] at h; cases h
            · exact h
          simp (config := { maxSteps := 400000 }) only [H8, W_drawH, hlt, hxx, intPV, List.append_eq, go_sem, ↓reduceIte, reduceCtorEq, Nat.reduceEqDiff, Nat.reduceAdd, Nat.reduceLT, Nat.reduceLeDiff, Nat.reduceSub, Int.reduceToNat, Int.reduceLE, Int.reduceLT, Int.reduceNeg, Int.reduceBEq, Int.reduceBNe, Nat.reduceMul, Int.reduceAdd, Int.reduceMul, Int.reduceSub, Int.reduceEq, Int.reduceNe]
          refine WDQ_pure pWM rfl ?_
          simp (config := { maxSteps := 400000 }) only [H8, W_drawH, hlt, hxx, intsPV, intPV, List.append_eq, go_sem, ↓reduceIte, reduceCtorEq, Nat.reduceEqDiff, Nat.reduceAdd, Nat.reduceLT, Nat.reduceLeDiff, Nat.reduceSub, Int.reduceToNat, Int.reduceLE, Int.reduceLT, Int.reduceNeg, Int.reduceBEq, Int.reduceBNe, Nat.reduceMul, Int.reduceAdd, Int.reduceMul, Int.reduceSub, Int.reduceEq, Int.reduceNe]
          refine WDQ_pure (cHas wm n false (by omega)) rfl ?_
          simp (config := { maxSteps := 400000 }) only [H8, W_drawH, hwm, List.append_eq, go_sem, ↓reduceIte, reduceCtorEq, Nat.reduceEqDiff, Nat.reduceAdd, Nat.reduceLT, Nat.reduceLeDiff, Nat.reduceSub, Int.reduceToNat, Int.reduceLE, Int.reduceLT, Int.reduceNeg, Int.reduceBEq, Int.reduceBNe, Nat.reduceMul, Int.reduceAdd, Int.reduceMul, Int.reduceSub, Int.reduceEq, Int.reduceNe]
          refine WQ_headA (done ++ [n], r) (by simp [e1]) (by simp) ?_
          simp (config := { maxSteps := 400000 }) only [hnx, go_sem, ↓reduceIte, reduceCtorEq, Nat.reduceEqDiff, Nat.reduceAdd, Nat.reduceLT, Nat.reduceLeDiff, Nat.reduceSub, Int.reduceToNat, Int.reduceLE, Int.reduceLT, Int.reduceNeg, Int.reduceBEq, Int.reduceBNe, Nat.reduceMul, Int.reduceAdd, Int.reduceMul, Int.reduceSub, Int.reduceEq, Int.reduceNe]
        · simp (config := { maxSteps := 400000 }) only [H8, W_drawH, hlt, hxx, intPV, List.append_eq, go_sem, ↓reduceIte, reduceCtorEq, Nat.reduceEqDiff, Nat.reduceAdd, Nat.reduceLT, Nat.reduceLeDiff, Nat.reduceSub, Int.reduceToNat, Int.reduceLE, Int.reduceLT, Int.reduceNeg, Int.reduceBEq, Int.reduceBNe, Nat.reduceMul, Int.reduceAdd, Int.reduceMul, Int.reduceSub, Int.reduceEq, Int.reduceNe]
          refine WQ_headA (done ++ [n], r) (by simp [e1]) (by simp) ?_
          simp (config := { maxSteps := 400000 }) only [hnx, go_sem, ↓reduceIte, reduceCtorEq, Nat.reduceEqDiff, Nat.reduceAdd, Nat.reduceLT, Nat.reduceLeDiff, Nat.reduceSub, Int.reduceToNat, Int.reduceLE, Int.reduceLT, Int.reduceNeg, Int.reduceBEq, Int.reduceBNe, Nat.reduceMul, Int.reduceAdd, Int.reduceMul, Int.reduceSub, Int.reduceEq, Int.reduceNe]
end Abs
end Go.Proofs.Ytdgmmijimclooaa
