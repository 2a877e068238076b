/-
  CONTRACTS OF THE LAWS: WickThinnest, WickBounds.
-/
import Derived.Test.YtdgmmijimclooaaWkLaw2
namespace Go.Proofs.Ytdgmmijimclooaa
namespace Abs
set_option linter.unusedSimpArgs false
set_option maxRecDepth 4000

theorem mem_suits (s : Shop) (c : Candle) (x : Wax) : ∀ (l : List Wick) (i : Nat) (n : Int), n ∈ suitsGo s c x l i ↔ ∃ (j : Nat) (w : Wick), l[j]? = some w ∧ okW s c x w = true ∧ n = ((i + j : Nat) : Int)
  | [], i, n => by simp [suitsGo]
  | w :: r, i, n => by
    have ih := mem_suits s c x r (i + 1) n
    have step : (∃ (j : Nat) (v : Wick), (w :: r)[j]? = some v ∧ okW s c x v = true ∧ n = ((i + j : Nat) : Int)) ↔ ((okW s c x w = true ∧ n = (i : Int)) ∨ ∃ (j : Nat) (v : Wick), r[j]? = some v ∧ okW s c x v = true ∧ n = ((i + 1 + j : Nat) : Int)) := by
      constructor
      · rintro ⟨j, v, h1, h2, h3⟩
        cases j with
        | zero => cases h1; exact .inl ⟨h2, h3⟩
        | succ j => exact .inr ⟨j, v, by simpa using h1, h2, by rw [h3]; congr 1; omega⟩
      · rintro (⟨h1, h2⟩ | ⟨j, v, h1, h2, h3⟩)
        · exact ⟨0, w, rfl, h1, h2⟩
        · exact ⟨j + 1, v, by simpa using h1, h2, by rw [h3]; congr 1; omega⟩
    rw [step, ← ih, suitsGo]
    split
    · rename_i h
      rw [List.mem_cons]
      constructor
      · rintro (h1 | h1)
        · exact .inl ⟨h, h1⟩
        · exact .inr h1
      · rintro (h1 | h1)
        · exact .inl h1.2
        · exact .inr h1
    · rename_i h
      constructor
      · exact .inr
      · rintro (h1 | h1)
        · exact absurd h1.1 h
        · exact h1
theorem best_spec (s : Shop) : ∀ (l : List Int) (b : Int), (∀ n, n ∈ l → valid s n) → (b < 0 ∨ 0 ≤ b) → (bestGo s l b ∈ l ∨ bestGo s l b = b) ∧ (∀ n, n ∈ l → thr s (bestGo s l b) ≤ thr s n) ∧ (0 ≤ b → thr s (bestGo s l b) ≤ thr s b)
  | [], b, _, _ => ⟨.inr rfl, fun _ h => (by cases h), fun _ => Int.le_refl _⟩
  | n :: r, b, hl, hb => by
    unfold bestGo
    have hn := (hl n (by simp)).1
    have hr : ∀ m, m ∈ r → valid s m := fun m hm => hl m (by simp [hm])
    split
    · rename_i hc
      obtain ⟨h1, h2, h3⟩ := best_spec s r n hr (.inr hn)
      refine ⟨.inl ?_, fun m hm => ?_, fun h0 => ?_⟩
      · rcases h1 with h1 | h1
        · exact List.mem_cons_of_mem _ h1
        · rw [h1]; exact List.mem_cons_self ..
      · rcases List.mem_cons.1 hm with rfl | hm
        · exact h3 hn
        · exact h2 m hm
      · have := h3 hn
        simp at hc
        omega
    · rename_i hc
      simp at hc
      obtain ⟨h1, h2, h3⟩ := best_spec s r b hr hb
      refine ⟨?_, fun m hm => ?_, h3⟩
      · rcases h1 with h1 | h1
        · exact .inl (List.mem_cons_of_mem _ h1)
        · exact .inr h1
      · rcases List.mem_cons.1 hm with rfl | hm
        · have := h3 hc.1; omega
        · exact h2 m hm

theorem pos_not_zero (n : Nat) : decide (0 < (n : Int)) = !((n : Int) == 0) := by
  cases n with
  | zero => rfl
  | succ n => simp <;> omega

theorem lThinnest (s : Shop) (c : Candle) : PCall Try.prog 9 [s.pv, c.pv] (.bool true) := by
  obtain ⟨x, hx⟩ := site_any0 s c
  have t1 := cWickThinnest s c x hx
  refine pcall_of_wp draws (fn := Try.f9) (n := 113) (rs := [.tmp 4]) (by kernel_rfl) rfl rfl rfl ok9 (Nat.le_of_ble_eq_true rfl) ?_
  simp (config := { maxSteps := 400000 }) only [go_sem, ↓reduceIte, reduceCtorEq, Nat.reduceEqDiff, Nat.reduceAdd, Nat.reduceLT, Nat.reduceLeDiff, Nat.reduceSub, Int.reduceToNat, Int.reduceLE, Int.reduceLT, Int.reduceNeg, Int.reduceBEq, Int.reduceBNe, Nat.reduceMul, Int.reduceAdd, Int.reduceMul, Int.reduceSub, Int.reduceEq, Int.reduceNe]
  refine WF_pure t1 rfl ?_
  simp (config := { maxSteps := 400000 }) only [go_sem, ↓reduceIte, reduceCtorEq, Nat.reduceEqDiff, Nat.reduceAdd, Nat.reduceLT, Nat.reduceLeDiff, Nat.reduceSub, Int.reduceToNat, Int.reduceLE, Int.reduceLT, Int.reduceNeg, Int.reduceBEq, Int.reduceBNe, Nat.reduceMul, Int.reduceAdd, Int.reduceMul, Int.reduceSub, Int.reduceEq, Int.reduceNe]
  refine WF_pure (cRefCandle s c) rfl ?_
  by_cases h0 : askErr s [] c = 0
  rotate_left
  · have h1 : (askErr s [] c != 0) = true := by simpa using h0
    simp (config := { maxSteps := 400000 }) only [h1, thinSpec, if_neg h0, beq_self_eq_true, go_sem, ↓reduceIte, reduceCtorEq, Nat.reduceEqDiff, Nat.reduceAdd, Nat.reduceLT, Nat.reduceLeDiff, Nat.reduceSub, Int.reduceToNat, Int.reduceLE, Int.reduceLT, Int.reduceNeg, Int.reduceBEq, Int.reduceBNe, Nat.reduceMul, Int.reduceAdd, Int.reduceMul, Int.reduceSub, Int.reduceEq, Int.reduceNe]
    refine WF_pure cAwake rfl ?_
    simp (config := { maxSteps := 400000 }) only [go_sem, ↓reduceIte, reduceCtorEq, Nat.reduceEqDiff, Nat.reduceAdd, Nat.reduceLT, Nat.reduceLeDiff, Nat.reduceSub, Int.reduceToNat, Int.reduceLE, Int.reduceLT, Int.reduceNeg, Int.reduceBEq, Int.reduceBNe, Nat.reduceMul, Int.reduceAdd, Int.reduceMul, Int.reduceSub, Int.reduceEq, Int.reduceNe]
  have h1 : (askErr s [] c != 0) = false := by simpa using h0
  have hs := hx h0
  have lw := hs.so.lw
  have hv : ∀ n, n ∈ suitsGo s c x s.wicks 0 → valid s n := suits_valid s c x s.wicks 0 (by simp)
  have hm := mem_suits s c x s.wicks 0
  have hb := best_spec s (suitsGo s c x s.wicks 0) (-1) hv (by omega)
  have hn := best_nonneg s (suitsGo s c x s.wicks 0) (-1) hv
  rw [thinSpec, if_pos h0]
  generalize bestGo s (suitsGo s c x s.wicks 0) (-1) = k at *
  obtain ⟨hb1, hb2, _⟩ := hb
  by_cases hk : k < 0
  · rw [if_pos hk]
    simp (config := { maxSteps := 400000 }) only [h1, go_sem, ↓reduceIte, reduceCtorEq, Nat.reduceEqDiff, Nat.reduceAdd, Nat.reduceLT, Nat.reduceLeDiff, Nat.reduceSub, Int.reduceToNat, Int.reduceLE, Int.reduceLT, Int.reduceNeg, Int.reduceBEq, Int.reduceBNe, Nat.reduceMul, Int.reduceAdd, Int.reduceMul, Int.reduceSub, Int.reduceEq, Int.reduceNe]
    refine W_loopH [2, 3, 5, 6] (σ := List Wick × List Wick) (fun q => s.wicks = q.1 ++ q.2) (fun q => q.2.length) (fun q => [(8, .p (.int .i64 q.1.length))]) ([], s.wicks) rfl ?_ ?_
    · simp (config := { maxSteps := 400000 }) only [go_sem, ↓reduceIte, reduceCtorEq, Nat.reduceEqDiff, Nat.reduceAdd, Nat.reduceLT, Nat.reduceLeDiff, Nat.reduceSub, Int.reduceToNat, Int.reduceLE, Int.reduceLT, Int.reduceNeg, Int.reduceBEq, Int.reduceBNe, Nat.reduceMul, Int.reduceAdd, Int.reduceMul, Int.reduceSub, Int.reduceEq, Int.reduceNe]
    rintro ⟨done, rest⟩ e1
    dsimp only at e1
    cases rest with
    | nil =>
      have hlt : ¬ ((done.length : Int) < (s.wicks.length : Int)) := by rw [e1]; simp
      simp (config := { maxSteps := 400000 }) only [hlt, go_sem, ↓reduceIte, reduceCtorEq, Nat.reduceEqDiff, Nat.reduceAdd, Nat.reduceLT, Nat.reduceLeDiff, Nat.reduceSub, Int.reduceToNat, Int.reduceLE, Int.reduceLT, Int.reduceNeg, Int.reduceBEq, Int.reduceBNe, Nat.reduceMul, Int.reduceAdd, Int.reduceMul, Int.reduceSub, Int.reduceEq, Int.reduceNe]
      refine WF_pure cAwake rfl ?_
      simp (config := { maxSteps := 400000 }) only [go_sem, ↓reduceIte, reduceCtorEq, Nat.reduceEqDiff, Nat.reduceAdd, Nat.reduceLT, Nat.reduceLeDiff, Nat.reduceSub, Int.reduceToNat, Int.reduceLE, Int.reduceLT, Int.reduceNeg, Int.reduceBEq, Int.reduceBNe, Nat.reduceMul, Int.reduceAdd, Int.reduceMul, Int.reduceSub, Int.reduceEq, Int.reduceNe]
    | cons w r =>
      obtain ⟨hxx, hlt⟩ := list_at e1
      have hnx : IntKind.i64.wrap ((done.length : Int) + 1) = (((done ++ [w]).length : Nat) : Int) := wrap_add (by omega) (by simp [room]; omega) (by simp)
      have g : Good s c x (done.length : Int) w := ⟨h0, site_at hs e1, hs⟩
      have hok : ((((faultsOf s c.diameter (leastB w x c) (mostB w x c)).length : Nat) : Int) == 0) = okW s c x w := by
        unfold okW
        rw [Bool.eq_iff_iff]; simp
      have hno : okW s c x w = false := by
        cases hw : okW s c x w
        · rfl
        · have := hn (.inl (List.ne_nil_of_mem ((hm (done.length : Int)).2 ⟨done.length, w, hxx, hw, by simp⟩)))
          omega
      rw [hno] at hok
      simp (config := { maxSteps := 400000 }) only [hlt, go_sem, ↓reduceIte, reduceCtorEq, Nat.reduceEqDiff, Nat.reduceAdd, Nat.reduceLT, Nat.reduceLeDiff, Nat.reduceSub, Int.reduceToNat, Int.reduceLE, Int.reduceLT, Int.reduceNeg, Int.reduceBEq, Int.reduceBNe, Nat.reduceMul, Int.reduceAdd, Int.reduceMul, Int.reduceSub, Int.reduceEq, Int.reduceNe]
      refine WF_pure g.pFaults rfl ?_
      simp (config := { maxSteps := 400000 }) only [intsPV, hok, List.append_eq, go_sem, ↓reduceIte, reduceCtorEq, Nat.reduceEqDiff, Nat.reduceAdd, Nat.reduceLT, Nat.reduceLeDiff, Nat.reduceSub, Int.reduceToNat, Int.reduceLE, Int.reduceLT, Int.reduceNeg, Int.reduceBEq, Int.reduceBNe, Nat.reduceMul, Int.reduceAdd, Int.reduceMul, Int.reduceSub, Int.reduceEq, Int.reduceNe]
      refine WQ_headA (done ++ [w], r) (by simp [e1]) (by simp) ?_
      simp (config := { maxSteps := 400000 }) only [hnx, go_sem, ↓reduceIte, reduceCtorEq, Nat.reduceEqDiff, Nat.reduceAdd, Nat.reduceLT, Nat.reduceLeDiff, Nat.reduceSub, Int.reduceToNat, Int.reduceLE, Int.reduceLT, Int.reduceNeg, Int.reduceBEq, Int.reduceBNe, Nat.reduceMul, Int.reduceAdd, Int.reduceMul, Int.reduceSub, Int.reduceEq, Int.reduceNe]
  · rw [if_neg hk]
    have hk0 : 0 ≤ k := by omega
    have hmem : k ∈ suitsGo s c x s.wicks 0 := by
      rcases hb1 with h | h
      · exact h
      · omega
    obtain ⟨j, wk, hj, hokk, hjk⟩ := (hm k).1 hmem
    simp only [Nat.zero_add] at hjk
    have hjl : j < s.wicks.length := (List.getElem?_eq_some_iff.1 hj).1
    have hk1 : k < (s.wicks.length : Int) := by omega
    have hkj : s.wicks[k.toNat]? = some wk := by rw [hjk]; simpa using hj
    have n1 : ¬ k < 0 := hk
    have n2 : ¬ (s.wicks.length : Int) ≤ k := by omega
    simp (config := { maxSteps := 400000 }) only [h1, n1, n2, go_sem, ↓reduceIte, reduceCtorEq, Nat.reduceEqDiff, Nat.reduceAdd, Nat.reduceLT, Nat.reduceLeDiff, Nat.reduceSub, Int.reduceToNat, Int.reduceLE, Int.reduceLT, Int.reduceNeg, Int.reduceBEq, Int.reduceBNe, Nat.reduceMul, Int.reduceAdd, Int.reduceMul, Int.reduceSub, Int.reduceEq, Int.reduceNe]
    refine W_loopH [2, 3, 5, 6] (σ := List Wick × List Wick) (fun q => s.wicks = q.1 ++ q.2) (fun q => q.2.length) (fun q => [(8, .p (.int .i64 q.1.length))]) ([], s.wicks) rfl ?_ ?_
    · simp (config := { maxSteps := 400000 }) only [go_sem, ↓reduceIte, reduceCtorEq, Nat.reduceEqDiff, Nat.reduceAdd, Nat.reduceLT, Nat.reduceLeDiff, Nat.reduceSub, Int.reduceToNat, Int.reduceLE, Int.reduceLT, Int.reduceNeg, Int.reduceBEq, Int.reduceBNe, Nat.reduceMul, Int.reduceAdd, Int.reduceMul, Int.reduceSub, Int.reduceEq, Int.reduceNe]
    rintro ⟨done, rest⟩ e1
    dsimp only at e1
    cases rest with
    | nil =>
      have hlt : ¬ ((done.length : Int) < (s.wicks.length : Int)) := by rw [e1]; simp
      simp (config := { maxSteps := 400000 }) only [hlt, go_sem, ↓reduceIte, reduceCtorEq, Nat.reduceEqDiff, Nat.reduceAdd, Nat.reduceLT, Nat.reduceLeDiff, Nat.reduceSub, Int.reduceToNat, Int.reduceLE, Int.reduceLT, Int.reduceNeg, Int.reduceBEq, Int.reduceBNe, Nat.reduceMul, Int.reduceAdd, Int.reduceMul, Int.reduceSub, Int.reduceEq, Int.reduceNe]
      refine WF_pure cAwake rfl ?_
      simp (config := { maxSteps := 400000 }) only [go_sem, ↓reduceIte, reduceCtorEq, Nat.reduceEqDiff, Nat.reduceAdd, Nat.reduceLT, Nat.reduceLeDiff, Nat.reduceSub, Int.reduceToNat, Int.reduceLE, Int.reduceLT, Int.reduceNeg, Int.reduceBEq, Int.reduceBNe, Nat.reduceMul, Int.reduceAdd, Int.reduceMul, Int.reduceSub, Int.reduceEq, Int.reduceNe]
    | cons w r =>
      obtain ⟨hxx, hlt⟩ := list_at e1
      have hnx : IntKind.i64.wrap ((done.length : Int) + 1) = (((done ++ [w]).length : Nat) : Int) := wrap_add (by omega) (by simp [room]; omega) (by simp)
      have g : Good s c x (done.length : Int) w := ⟨h0, site_at hs e1, hs⟩
      have hok : ((((faultsOf s c.diameter (leastB w x c) (mostB w x c)).length : Nat) : Int) == 0) = okW s c x w := by
        unfold okW
        rw [Bool.eq_iff_iff]; simp
      have hok2 : decide (0 < (((faultsOf s c.diameter (leastB w x c) (mostB w x c)).length : Nat) : Int)) = !okW s c x w := by
        rw [← hok]; exact pos_not_zero _
      have hpf := g.pFaults
      generalize faultsOf s c.diameter (leastB w x c) (mostB w x c) = f at *
      simp (config := { maxSteps := 400000 }) only [hlt, go_sem, ↓reduceIte, reduceCtorEq, Nat.reduceEqDiff, Nat.reduceAdd, Nat.reduceLT, Nat.reduceLeDiff, Nat.reduceSub, Int.reduceToNat, Int.reduceLE, Int.reduceLT, Int.reduceNeg, Int.reduceBEq, Int.reduceBNe, Nat.reduceMul, Int.reduceAdd, Int.reduceMul, Int.reduceSub, Int.reduceEq, Int.reduceNe]
      refine WF_pure hpf rfl ?_
      cases hw : okW s c x w
      · rw [hw] at hok hok2
        have hne : ((done.length : Int) == k) = false := by
          rw [beq_eq_false_iff_ne]
          intro h
          have : w = wk := by
            have h2 : done.length = j := by omega
            rw [h2] at hxx
            exact Option.some.inj (hxx.symm.trans hj)
          rw [this, hokk] at hw
          cases hw
        cases ht : decide (w.threads < wk.threads)
        · simp (config := { maxSteps := 400000 }) only [intsPV, hok, hok2, hne, hlt, hxx, hk0, hk1, hkj, ht, List.append_eq, go_sem, ↓reduceIte, reduceCtorEq, Nat.reduceEqDiff, Nat.reduceAdd, Nat.reduceLT, Nat.reduceLeDiff, Nat.reduceSub, Int.reduceToNat, Int.reduceLE, Int.reduceLT, Int.reduceNeg, Int.reduceBEq, Int.reduceBNe, Nat.reduceMul, Int.reduceAdd, Int.reduceMul, Int.reduceSub, Int.reduceEq, Int.reduceNe]
          refine WQ_headA (done ++ [w], r) (by simp [e1]) (by simp) ?_
          simp (config := { maxSteps := 400000 }) only [hnx, go_sem, ↓reduceIte, reduceCtorEq, Nat.reduceEqDiff, Nat.reduceAdd, Nat.reduceLT, Nat.reduceLeDiff, Nat.reduceSub, Int.reduceToNat, Int.reduceLE, Int.reduceLT, Int.reduceNeg, Int.reduceBEq, Int.reduceBNe, Nat.reduceMul, Int.reduceAdd, Int.reduceMul, Int.reduceSub, Int.reduceEq, Int.reduceNe]
        · simp (config := { maxSteps := 400000 }) only [intsPV, hok, hok2, hne, hlt, hxx, hk0, hk1, hkj, ht, List.append_eq, go_sem, ↓reduceIte, reduceCtorEq, Nat.reduceEqDiff, Nat.reduceAdd, Nat.reduceLT, Nat.reduceLeDiff, Nat.reduceSub, Int.reduceToNat, Int.reduceLE, Int.reduceLT, Int.reduceNeg, Int.reduceBEq, Int.reduceBNe, Nat.reduceMul, Int.reduceAdd, Int.reduceMul, Int.reduceSub, Int.reduceEq, Int.reduceNe]
          refine WQ_headA (done ++ [w], r) (by simp [e1]) (by simp) ?_
          simp (config := { maxSteps := 400000 }) only [hnx, go_sem, ↓reduceIte, reduceCtorEq, Nat.reduceEqDiff, Nat.reduceAdd, Nat.reduceLT, Nat.reduceLeDiff, Nat.reduceSub, Int.reduceToNat, Int.reduceLE, Int.reduceLT, Int.reduceNeg, Int.reduceBEq, Int.reduceBNe, Nat.reduceMul, Int.reduceAdd, Int.reduceMul, Int.reduceSub, Int.reduceEq, Int.reduceNe]
      · rw [hw] at hok hok2
        have ht : decide (w.threads < wk.threads) = false := by
          have h2 := hb2 (done.length : Int) ((hm _).2 ⟨done.length, w, hxx, hw, by simp⟩)
          have h3 : thr s (done.length : Int) = w.threads := by simp [thr, hxx]
          have h4 : thr s k = wk.threads := by simp [thr, hkj]
          rw [decide_eq_false_iff_not]
          omega
        cases hne : ((done.length : Int) == k)
        · simp (config := { maxSteps := 400000 }) only [intsPV, hok, hok2, hne, hlt, hxx, hk0, hk1, hkj, ht, List.append_eq, go_sem, ↓reduceIte, reduceCtorEq, Nat.reduceEqDiff, Nat.reduceAdd, Nat.reduceLT, Nat.reduceLeDiff, Nat.reduceSub, Int.reduceToNat, Int.reduceLE, Int.reduceLT, Int.reduceNeg, Int.reduceBEq, Int.reduceBNe, Nat.reduceMul, Int.reduceAdd, Int.reduceMul, Int.reduceSub, Int.reduceEq, Int.reduceNe]
          refine WQ_headA (done ++ [w], r) (by simp [e1]) (by simp) ?_
          simp (config := { maxSteps := 400000 }) only [hnx, go_sem, ↓reduceIte, reduceCtorEq, Nat.reduceEqDiff, Nat.reduceAdd, Nat.reduceLT, Nat.reduceLeDiff, Nat.reduceSub, Int.reduceToNat, Int.reduceLE, Int.reduceLT, Int.reduceNeg, Int.reduceBEq, Int.reduceBNe, Nat.reduceMul, Int.reduceAdd, Int.reduceMul, Int.reduceSub, Int.reduceEq, Int.reduceNe]
        · simp (config := { maxSteps := 400000 }) only [intsPV, hok, hok2, hne, hlt, hxx, hk0, hk1, hkj, ht, List.append_eq, go_sem, ↓reduceIte, reduceCtorEq, Nat.reduceEqDiff, Nat.reduceAdd, Nat.reduceLT, Nat.reduceLeDiff, Nat.reduceSub, Int.reduceToNat, Int.reduceLE, Int.reduceLT, Int.reduceNeg, Int.reduceBEq, Int.reduceBNe, Nat.reduceMul, Int.reduceAdd, Int.reduceMul, Int.reduceSub, Int.reduceEq, Int.reduceNe]
          refine WQ_headA (done ++ [w], r) (by simp [e1]) (by simp) ?_
          simp (config := { maxSteps := 400000 }) only [hnx, go_sem, ↓reduceIte, reduceCtorEq, Nat.reduceEqDiff, Nat.reduceAdd, Nat.reduceLT, Nat.reduceLeDiff, Nat.reduceSub, Int.reduceToNat, Int.reduceLE, Int.reduceLT, Int.reduceNeg, Int.reduceBEq, Int.reduceBNe, Nat.reduceMul, Int.reduceAdd, Int.reduceMul, Int.reduceSub, Int.reduceEq, Int.reduceNe]
end Abs
end Go.Proofs.Ytdgmmijimclooaa
