/-
  CONTRACTS OF THE LAWS: WickCalm.
-/
import Derived.Test.YtdgmmijimclooaaWkLaw5
namespace Go.Proofs.Ytdgmmijimclooaa
namespace Abs
set_option linter.unusedSimpArgs false
set_option maxRecDepth 4000

theorem faults_calm {s : Shop} {d : Int} {l m l' m' : Burn} (h1 : l.flame ≤ l'.flame) (h2 : l.pool ≤ l'.pool) (h3 : m'.flame ≤ m.flame) (h4 : m'.pool ≤ m.pool) {n : Int} (hn : n ∈ faultsOf s d l' m') : n ∈ faultsOf s d l m := by
  rw [mem_faults] at hn ⊢
  unfold smokes goesOut tunnels runsOver at *
  simp only [decide_eq_true_eq] at *
  rcases hn with ⟨h, h'⟩ | ⟨h, h'⟩ | ⟨h, h'⟩ | ⟨h, h'⟩ <;> omega
theorem faults_wide {s s' : Shop} {d : Int} {l m : Burn} (hd : 0 ≤ d) (h1 : s'.flame.lo ≤ s.flame.lo) (h2 : s.flame.hi ≤ s'.flame.hi) (h3 : s'.pool.lo ≤ s.pool.lo) (h4 : s.pool.hi ≤ s'.pool.hi) {n : Int} (hn : n ∈ faultsOf s' d l m) : n ∈ faultsOf s d l m := by
  have p1 : s'.pool.lo * d ≤ s.pool.lo * d := Int.mul_le_mul_of_nonneg_right h3 hd
  have p2 : s.pool.hi * d ≤ s'.pool.hi * d := Int.mul_le_mul_of_nonneg_right h4 hd
  rw [mem_faults] at hn ⊢
  unfold smokes goesOut tunnels runsOver at *
  simp only [decide_eq_true_eq] at *
  rcases hn with ⟨h, h'⟩ | ⟨h, h'⟩ | ⟨h, h'⟩ | ⟨h, h'⟩ <;> omega

theorem lCalm (s : Shop) (c : Candle) (y : BurntX) : PCall Try.prog 11 [s.pv, c.pv, y.pv] (.bool true) := by
  refine pcall_of_wp draws (fn := Try.f11) (n := 188) (rs := [.tmp 6]) (by kernel_rfl) rfl rfl rfl ok11 (Nat.le_of_ble_eq_true rfl) ?_
  simp (config := { maxSteps := 400000 }) only [BurntX.pv, go_sem, ↓reduceIte, reduceCtorEq, Nat.reduceEqDiff, Nat.reduceAdd, Nat.reduceLT, Nat.reduceLeDiff, Nat.reduceSub, Int.reduceToNat, Int.reduceLE, Int.reduceLT, Int.reduceNeg, Int.reduceBEq, Int.reduceBNe, Nat.reduceMul, Int.reduceAdd, Int.reduceMul, Int.reduceSub, Int.reduceEq, Int.reduceNe]
  refine WF_pure (cRefCandle s c) rfl ?_
  by_cases h0 : askErr s [] c = 0
  rotate_left
  · have h1 : (askErr s [] c != 0) = true := by simpa using h0
    simp (config := { maxSteps := 400000 }) only [h1, go_sem, ↓reduceIte, reduceCtorEq, Nat.reduceEqDiff, Nat.reduceAdd, Nat.reduceLT, Nat.reduceLeDiff, Nat.reduceSub, Int.reduceToNat, Int.reduceLE, Int.reduceLT, Int.reduceNeg, Int.reduceBEq, Int.reduceBNe, Nat.reduceMul, Int.reduceAdd, Int.reduceMul, Int.reduceSub, Int.reduceEq, Int.reduceNe]
    refine WF_pure cAwake rfl ?_
    simp (config := { maxSteps := 400000 }) only [go_sem, ↓reduceIte, reduceCtorEq, Nat.reduceEqDiff, Nat.reduceAdd, Nat.reduceLT, Nat.reduceLeDiff, Nat.reduceSub, Int.reduceToNat, Int.reduceLE, Int.reduceLT, Int.reduceNeg, Int.reduceBEq, Int.reduceBNe, Nat.reduceMul, Int.reduceAdd, Int.reduceMul, Int.reduceSub, Int.reduceEq, Int.reduceNe]
  have h1 : (askErr s [] c != 0) = false := by simpa using h0
  obtain ⟨x, hs⟩ := siteC_of h0
  have lw := hs.so.lw
  obtain ⟨m0, m1, m2, m3⟩ := wick_mod hs y.hk.1
  have wk : IntKind.i64.wrap y.k = y.k := wrap_in (by have := y.hk; omega) (by have := y.hk; omega)
  generalize hK : y.k % (s.wicks.length : Int) = k at m0 m1 m2
  obtain ⟨w, g⟩ := good_of h0 hs m1 m2
  have w0 := u16_wrap y.g0
  have w1 := u16_wrap y.g1
  have w2 := u16_wrap y.g2
  have w3 := u16_wrap y.g3
  have pw := g.k.wo.p
  have pf := g.s.xo.f
  have pr := g.s.xo.r
  have ps := g.s.xo.s
  have pg := g.s.co.g
  have pc := g.s.co.c
  have px := g.s.xo.c
  have fl := g.s.so.fl
  have po := g.s.so.po
  have q0 := y.g0
  have q1 := y.g1
  have q2 := y.g2
  have q3 := y.g3
  have a0 := among_in (lo := 0) (hi := c.draught) (n := y.n0) (by omega) (by omega) (by omega) y.g0.1
  have c0 := cAmongS (lo := 0) (hi := c.draught) (n := y.n0) (by omega) (by omega) (by omega) y.g0.1
  generalize amongOf 0 c.draught y.n0 = dr at *
  have a1 := among_in (lo := c.cold.lo) (hi := c.cold.hi) (n := y.n1) (by omega) (by omega) (by omega) y.g1.1
  have c1 := cAmongS (lo := c.cold.lo) (hi := c.cold.hi) (n := y.n1) (by omega) (by omega) (by omega) y.g1.1
  generalize amongOf c.cold.lo c.cold.hi y.n1 = lo at *
  have a2 := among_in (lo := lo) (hi := c.cold.hi) (n := y.n2) (by omega) (by omega) (by omega) y.g2.1
  have c2 := cAmongS (lo := lo) (hi := c.cold.hi) (n := y.n2) (by omega) (by omega) (by omega) y.g2.1
  generalize amongOf lo c.cold.hi y.n2 = hi at *
  have v0 : IntKind.i64.wrap (s.flame.lo - y.n0) = s.flame.lo - y.n0 := wrap_in (by omega) (by omega)
  have v1 : IntKind.i64.wrap (s.flame.hi + y.n1) = s.flame.hi + y.n1 := wrap_in (by omega) (by omega)
  have v2 : IntKind.i64.wrap (s.pool.lo - y.n2) = s.pool.lo - y.n2 := wrap_in (by omega) (by omega)
  have v3 : IntKind.i64.wrap (s.pool.hi + y.n3) = s.pool.hi + y.n3 := wrap_in (by omega) (by omega)
  have gC : Good s ⟨c.wax, c.diameter, dr, ⟨lo, hi⟩⟩ x k w := g.candle rfl ⟨g.s.co.d, by simp only; omega, by simp only; omega⟩
  obtain ⟨f0, e0, b0⟩ : ∃ f0, (if 0 < s.flame.lo - y.n0 then s.flame.lo - y.n0 else 0) = f0 ∧ 0 ≤ f0 ∧ f0 ≤ s.flame.lo := ⟨_, rfl, by split <;> omega, by split <;> omega⟩
  obtain ⟨f1, e1, b1⟩ : ∃ f1, (if s.flame.hi + y.n1 < 2000 then s.flame.hi + y.n1 else 2000) = f1 ∧ s.flame.hi ≤ f1 ∧ f1 ≤ 2000 := ⟨_, rfl, by split <;> omega, by split <;> omega⟩
  obtain ⟨f2, e2, b2⟩ : ∃ f2, (if 0 < s.pool.lo - y.n2 then s.pool.lo - y.n2 else 0) = f2 ∧ 0 ≤ f2 ∧ f2 ≤ s.pool.lo := ⟨_, rfl, by split <;> omega, by split <;> omega⟩
  obtain ⟨f3, e3, b3⟩ : ∃ f3, (if s.pool.hi + y.n3 < 2000 then s.pool.hi + y.n3 else 2000) = f3 ∧ s.pool.hi ≤ f3 ∧ f3 ≤ 2000 := ⟨_, rfl, by split <;> omega, by split <;> omega⟩
  have gW : Good ⟨s.wicks, s.waxes, ⟨f0, f1⟩, ⟨f2, f3⟩⟩ c x k w := g.shop rfl rfl (by simp only; omega) (by simp only; omega)
  have ml : (leastB w x c).rate ≤ (leastB w x ⟨c.wax, c.diameter, dr, ⟨lo, hi⟩⟩).rate ∧ (leastB w x c).flame ≤ (leastB w x ⟨c.wax, c.diameter, dr, ⟨lo, hi⟩⟩).flame ∧ (leastB w x c).pool ≤ (leastB w x ⟨c.wax, c.diameter, dr, ⟨lo, hi⟩⟩).pool := by
    refine burn_mono ?_ ?_ ?_ ?_ ?_ ?_ ?_ ?_ ?_ ?_ ?_ ?_ <;> first | omega | (simp only [leastT]; omega)
  have mm : (mostB w x ⟨c.wax, c.diameter, dr, ⟨lo, hi⟩⟩).rate ≤ (mostB w x c).rate ∧ (mostB w x ⟨c.wax, c.diameter, dr, ⟨lo, hi⟩⟩).flame ≤ (mostB w x c).flame ∧ (mostB w x ⟨c.wax, c.diameter, dr, ⟨lo, hi⟩⟩).pool ≤ (mostB w x c).pool := by
    refine burn_mono ?_ ?_ ?_ ?_ ?_ ?_ ?_ ?_ ?_ ?_ ?_ ?_ <;> first | omega | (simp only [mostT]; omega)
  have r := rate_pos g.k.wo g.s.xo g.s.co
  have r' := rate_pos gC.k.wo gC.s.xo gC.s.co
  have pA := g.pFaults
  have pB := gC.pFaults
  have pD := gW.pFaults
  have pM := g.pMinutes (n := 1000) rfl
  have pL := gC.pMinutes (n := 1000) rfl
  have u1 : ¬ (minSpan w x ⟨c.wax, c.diameter, dr, ⟨lo, hi⟩⟩ 1000).lo < (minSpan w x c 1000).lo := by
    have := div_mono (A := 600 * 1000 * 1000000) (by omega) r'.2.2.1 mm.1
    simp only [minSpan]
    omega
  have u2 : ¬ (minSpan w x c 1000).hi < (minSpan w x ⟨c.wax, c.diameter, dr, ⟨lo, hi⟩⟩ 1000).hi := by
    have := ceil_mono (A := 600 * 1000 * 1000000) (by omega) r.1 ml.1
    simp only [minSpan]
    omega
  have hB : ∀ n, n ∈ faultsOf s c.diameter (leastB w x ⟨c.wax, c.diameter, dr, ⟨lo, hi⟩⟩) (mostB w x ⟨c.wax, c.diameter, dr, ⟨lo, hi⟩⟩) → n ∈ faultsOf s c.diameter (leastB w x c) (mostB w x c) := fun n hn => faults_calm ml.2.1 ml.2.2 mm.2.1 mm.2.2 hn
  have hD : ∀ n, n ∈ faultsOf ⟨s.wicks, s.waxes, ⟨f0, f1⟩, ⟨f2, f3⟩⟩ c.diameter (leastB w x c) (mostB w x c) → n ∈ faultsOf s c.diameter (leastB w x c) (mostB w x c) := fun n hn => faults_wide (by have := g.s.co.d; omega) b0.2 b1.1 b2.2 b3.1 hn
  have l1 := faults_len4 s c.diameter (leastB w x c) (mostB w x c)
  have l2 := faults_len4 s c.diameter (leastB w x ⟨c.wax, c.diameter, dr, ⟨lo, hi⟩⟩) (mostB w x ⟨c.wax, c.diameter, dr, ⟨lo, hi⟩⟩)
  have l3 := faults_len4 ⟨s.wicks, s.waxes, ⟨f0, f1⟩, ⟨f2, f3⟩⟩ c.diameter (leastB w x c) (mostB w x c)
  simp only at pB
  generalize faultsOf s c.diameter (leastB w x ⟨c.wax, c.diameter, dr, ⟨lo, hi⟩⟩) (mostB w x ⟨c.wax, c.diameter, dr, ⟨lo, hi⟩⟩) = fb at *
  generalize faultsOf ⟨s.wicks, s.waxes, ⟨f0, f1⟩, ⟨f2, f3⟩⟩ c.diameter (leastB w x c) (mostB w x c) = fd at *
  generalize faultsOf s c.diameter (leastB w x c) (mostB w x c) = fa at *
  generalize minSpan w x ⟨c.wax, c.diameter, dr, ⟨lo, hi⟩⟩ 1000 = ml2 at *
  generalize minSpan w x c 1000 = ml1 at *
  simp (config := { maxSteps := 400000 }) only [h1, wk, m0, m3, go_sem, ↓reduceIte, reduceCtorEq, Nat.reduceEqDiff, Nat.reduceAdd, Nat.reduceLT, Nat.reduceLeDiff, Nat.reduceSub, Int.reduceToNat, Int.reduceLE, Int.reduceLT, Int.reduceNeg, Int.reduceBEq, Int.reduceBNe, Nat.reduceMul, Int.reduceAdd, Int.reduceMul, Int.reduceSub, Int.reduceEq, Int.reduceNe]
  repeat' first
    | (refine WDQ_pure (cLawSpan _ _) rfl ?_; simp (config := { maxSteps := 400000 }) only [w0, w1, w2, w3, v0, v1, v2, v3, e0, e1, e2, e3, go_sem, ↓reduceIte, reduceCtorEq, Nat.reduceEqDiff, Nat.reduceAdd, Nat.reduceLT, Nat.reduceLeDiff, Nat.reduceSub, Int.reduceToNat, Int.reduceLE, Int.reduceLT, Int.reduceNeg, Int.reduceBEq, Int.reduceBNe, Nat.reduceMul, Int.reduceAdd, Int.reduceMul, Int.reduceSub, Int.reduceEq, Int.reduceNe])
    | (refine WF_pure (cLawSpan _ _) rfl ?_; simp (config := { maxSteps := 400000 }) only [w0, w1, w2, w3, v0, v1, v2, v3, e0, e1, e2, e3, go_sem, ↓reduceIte, reduceCtorEq, Nat.reduceEqDiff, Nat.reduceAdd, Nat.reduceLT, Nat.reduceLeDiff, Nat.reduceSub, Int.reduceToNat, Int.reduceLE, Int.reduceLT, Int.reduceNeg, Int.reduceBEq, Int.reduceBNe, Nat.reduceMul, Int.reduceAdd, Int.reduceMul, Int.reduceSub, Int.reduceEq, Int.reduceNe])
    | (refine WDQ_pure c0 rfl ?_; simp (config := { maxSteps := 400000 }) only [w0, w1, w2, w3, v0, v1, v2, v3, e0, e1, e2, e3, go_sem, ↓reduceIte, reduceCtorEq, Nat.reduceEqDiff, Nat.reduceAdd, Nat.reduceLT, Nat.reduceLeDiff, Nat.reduceSub, Int.reduceToNat, Int.reduceLE, Int.reduceLT, Int.reduceNeg, Int.reduceBEq, Int.reduceBNe, Nat.reduceMul, Int.reduceAdd, Int.reduceMul, Int.reduceSub, Int.reduceEq, Int.reduceNe])
    | (refine WF_pure c1 rfl ?_; simp (config := { maxSteps := 400000 }) only [w0, w1, w2, w3, v0, v1, v2, v3, e0, e1, e2, e3, go_sem, ↓reduceIte, reduceCtorEq, Nat.reduceEqDiff, Nat.reduceAdd, Nat.reduceLT, Nat.reduceLeDiff, Nat.reduceSub, Int.reduceToNat, Int.reduceLE, Int.reduceLT, Int.reduceNeg, Int.reduceBEq, Int.reduceBNe, Nat.reduceMul, Int.reduceAdd, Int.reduceMul, Int.reduceSub, Int.reduceEq, Int.reduceNe])
    | (refine WDQ_pure c2 rfl ?_; simp (config := { maxSteps := 400000 }) only [w0, w1, w2, w3, v0, v1, v2, v3, e0, e1, e2, e3, go_sem, ↓reduceIte, reduceCtorEq, Nat.reduceEqDiff, Nat.reduceAdd, Nat.reduceLT, Nat.reduceLeDiff, Nat.reduceSub, Int.reduceToNat, Int.reduceLE, Int.reduceLT, Int.reduceNeg, Int.reduceBEq, Int.reduceBNe, Nat.reduceMul, Int.reduceAdd, Int.reduceMul, Int.reduceSub, Int.reduceEq, Int.reduceNe])
  refine WF_pure pA rfl ?_
  simp (config := { maxSteps := 400000 }) only [go_sem, ↓reduceIte, reduceCtorEq, Nat.reduceEqDiff, Nat.reduceAdd, Nat.reduceLT, Nat.reduceLeDiff, Nat.reduceSub, Int.reduceToNat, Int.reduceLE, Int.reduceLT, Int.reduceNeg, Int.reduceBEq, Int.reduceBNe, Nat.reduceMul, Int.reduceAdd, Int.reduceMul, Int.reduceSub, Int.reduceEq, Int.reduceNe]
  refine WF_pure pB rfl ?_
  simp (config := { maxSteps := 400000 }) only [go_sem, ↓reduceIte, reduceCtorEq, Nat.reduceEqDiff, Nat.reduceAdd, Nat.reduceLT, Nat.reduceLeDiff, Nat.reduceSub, Int.reduceToNat, Int.reduceLE, Int.reduceLT, Int.reduceNeg, Int.reduceBEq, Int.reduceBNe, Nat.reduceMul, Int.reduceAdd, Int.reduceMul, Int.reduceSub, Int.reduceEq, Int.reduceNe]
  refine WF_pure pD rfl ?_
  simp (config := { maxSteps := 400000 }) only [go_sem, ↓reduceIte, reduceCtorEq, Nat.reduceEqDiff, Nat.reduceAdd, Nat.reduceLT, Nat.reduceLeDiff, Nat.reduceSub, Int.reduceToNat, Int.reduceLE, Int.reduceLT, Int.reduceNeg, Int.reduceBEq, Int.reduceBNe, Nat.reduceMul, Int.reduceAdd, Int.reduceMul, Int.reduceSub, Int.reduceEq, Int.reduceNe]
  refine WF_pure pM rfl ?_
  simp (config := { maxSteps := 400000 }) only [go_sem, ↓reduceIte, reduceCtorEq, Nat.reduceEqDiff, Nat.reduceAdd, Nat.reduceLT, Nat.reduceLeDiff, Nat.reduceSub, Int.reduceToNat, Int.reduceLE, Int.reduceLT, Int.reduceNeg, Int.reduceBEq, Int.reduceBNe, Nat.reduceMul, Int.reduceAdd, Int.reduceMul, Int.reduceSub, Int.reduceEq, Int.reduceNe]
  refine WF_pure pL rfl ?_
  have r1 : fb.length ≤ room := by simp [room]; omega
  have r2 : fd.length ≤ room := by simp [room]; omega
  have r3 : fb.length + fd.length ≤ room := by simp [room]; omega
  have ne : ∀ (l : List Int), l ≠ [] → (List.map AV.p (List.map intPV l) = []) = False := fun l h => by simp [h]
  by_cases hb0 : fb = []
  · by_cases hd0 : fd = []
    · subst hb0 hd0
      simp (config := { maxSteps := 400000 }) only [u1, u2, intsPV, Nat.zero_le, go_sem, ↓reduceIte, reduceCtorEq, Nat.reduceEqDiff, Nat.reduceAdd, Nat.reduceLT, Nat.reduceLeDiff, Nat.reduceSub, Int.reduceToNat, Int.reduceLE, Int.reduceLT, Int.reduceNeg, Int.reduceBEq, Int.reduceBNe, Nat.reduceMul, Int.reduceAdd, Int.reduceMul, Int.reduceSub, Int.reduceEq, Int.reduceNe]
      refine W_unroll ?_
      simp (config := { maxSteps := 400000 }) only [go_sem, ↓reduceIte, reduceCtorEq, Nat.reduceEqDiff, Nat.reduceAdd, Nat.reduceLT, Nat.reduceLeDiff, Nat.reduceSub, Int.reduceToNat, Int.reduceLE, Int.reduceLT, Int.reduceNeg, Int.reduceBEq, Int.reduceBNe, Nat.reduceMul, Int.reduceAdd, Int.reduceMul, Int.reduceSub, Int.reduceEq, Int.reduceNe]
      refine WF_pure cAwake rfl ?_
      simp (config := { maxSteps := 400000 }) only [go_sem, ↓reduceIte, reduceCtorEq, Nat.reduceEqDiff, Nat.reduceAdd, Nat.reduceLT, Nat.reduceLeDiff, Nat.reduceSub, Int.reduceToNat, Int.reduceLE, Int.reduceLT, Int.reduceNeg, Int.reduceBEq, Int.reduceBNe, Nat.reduceMul, Int.reduceAdd, Int.reduceMul, Int.reduceSub, Int.reduceEq, Int.reduceNe]
    · have nd := ne fd hd0
      subst hb0
      simp (config := { maxSteps := 400000 }) only [u1, u2, intsPV, nd, r2, Nat.zero_le, go_sem, ↓reduceIte, reduceCtorEq, Nat.reduceEqDiff, Nat.reduceAdd, Nat.reduceLT, Nat.reduceLeDiff, Nat.reduceSub, Int.reduceToNat, Int.reduceLE, Int.reduceLT, Int.reduceNeg, Int.reduceBEq, Int.reduceBNe, Nat.reduceMul, Int.reduceAdd, Int.reduceMul, Int.reduceSub, Int.reduceEq, Int.reduceNe]
      refine W_loopH [12, 22] (σ := List Int × List Int) (fun q => fd = q.1 ++ q.2) (fun q => q.2.length) (fun q => [(23, .p (.int .i64 q.1.length))]) ([], fd) (List.nil_append _).symm ?_ ?_
      · simp (config := { maxSteps := 400000 }) only [go_sem, ↓reduceIte, reduceCtorEq, Nat.reduceEqDiff, Nat.reduceAdd, Nat.reduceLT, Nat.reduceLeDiff, Nat.reduceSub, Int.reduceToNat, Int.reduceLE, Int.reduceLT, Int.reduceNeg, Int.reduceBEq, Int.reduceBNe, Nat.reduceMul, Int.reduceAdd, Int.reduceMul, Int.reduceSub, Int.reduceEq, Int.reduceNe]
      rintro ⟨done, rest⟩ e1
      dsimp only at e1
      have hll := congrArg List.length e1
      rw [List.length_append] at hll
      cases rest with
      | nil =>
        have hlt : ¬ ((done.length : Int) < (fd.length : Int)) := by simp at hll ⊢; omega
        simp (config := { maxSteps := 400000 }) only [hlt, List.length_append, List.length_map, go_sem, ↓reduceIte, reduceCtorEq, Nat.reduceEqDiff, Nat.reduceAdd, Nat.reduceLT, Nat.reduceLeDiff, Nat.reduceSub, Int.reduceToNat, Int.reduceLE, Int.reduceLT, Int.reduceNeg, Int.reduceBEq, Int.reduceBNe, Nat.reduceMul, Int.reduceAdd, Int.reduceMul, Int.reduceSub, Int.reduceEq, Int.reduceNe]
        refine WF_pure cAwake rfl ?_
        simp (config := { maxSteps := 400000 }) only [go_sem, ↓reduceIte, reduceCtorEq, Nat.reduceEqDiff, Nat.reduceAdd, Nat.reduceLT, Nat.reduceLeDiff, Nat.reduceSub, Int.reduceToNat, Int.reduceLE, Int.reduceLT, Int.reduceNeg, Int.reduceBEq, Int.reduceBNe, Nat.reduceMul, Int.reduceAdd, Int.reduceMul, Int.reduceSub, Int.reduceEq, Int.reduceNe]
      | cons n r =>
        obtain ⟨hxx, _⟩ := list_at e1
        have hlt : (done.length : Int) < (fd.length : Int) := by simp at hll ⊢; omega
        have hnx : IntKind.i64.wrap ((done.length : Int) + 1) = (((done ++ [n]).length : Nat) : Int) := wrap_add (by omega) (by simp [room] at hll ⊢; omega) (by simp)
        have hn : (fa.any fun m => m == n) = true := any_mem.2 (hD n (by rw [e1]; simp))
        have hrow : (List.map AV.p (List.map intPV fd))[done.length]? = some (.p (.int .i64 n)) := by
          have : (List.map AV.p (List.map intPV fd)) = (fd).map fun j => AV.p (.int .i64 j) := by rw [List.map_map]; rfl
          rw [this, List.getElem?_map, hxx]; rfl
        simp (config := { maxSteps := 400000 }) only [hlt, hrow, hxx, intPV, List.length_append, List.length_map, go_sem, ↓reduceIte, reduceCtorEq, Nat.reduceEqDiff, Nat.reduceAdd, Nat.reduceLT, Nat.reduceLeDiff, Nat.reduceSub, Int.reduceToNat, Int.reduceLE, Int.reduceLT, Int.reduceNeg, Int.reduceBEq, Int.reduceBNe, Nat.reduceMul, Int.reduceAdd, Int.reduceMul, Int.reduceSub, Int.reduceEq, Int.reduceNe]
        refine WF_pure (cHas fa n false (by omega)) rfl ?_
        simp (config := { maxSteps := 400000 }) only [hn, go_sem, ↓reduceIte, reduceCtorEq, Nat.reduceEqDiff, Nat.reduceAdd, Nat.reduceLT, Nat.reduceLeDiff, Nat.reduceSub, Int.reduceToNat, Int.reduceLE, Int.reduceLT, Int.reduceNeg, Int.reduceBEq, Int.reduceBNe, Nat.reduceMul, Int.reduceAdd, Int.reduceMul, Int.reduceSub, Int.reduceEq, Int.reduceNe]
        refine WQ_headA (done ++ [n], r) (by simp [e1]) (by simp) ?_
        simp (config := { maxSteps := 400000 }) only [hnx, go_sem, ↓reduceIte, reduceCtorEq, Nat.reduceEqDiff, Nat.reduceAdd, Nat.reduceLT, Nat.reduceLeDiff, Nat.reduceSub, Int.reduceToNat, Int.reduceLE, Int.reduceLT, Int.reduceNeg, Int.reduceBEq, Int.reduceBNe, Nat.reduceMul, Int.reduceAdd, Int.reduceMul, Int.reduceSub, Int.reduceEq, Int.reduceNe]
  · have nb := ne fb hb0
    by_cases hd0 : fd = []
    · subst hd0
      simp (config := { maxSteps := 400000 }) only [u1, u2, intsPV, nb, r1, Nat.add_zero, List.append_nil, go_sem, ↓reduceIte, reduceCtorEq, Nat.reduceEqDiff, Nat.reduceAdd, Nat.reduceLT, Nat.reduceLeDiff, Nat.reduceSub, Int.reduceToNat, Int.reduceLE, Int.reduceLT, Int.reduceNeg, Int.reduceBEq, Int.reduceBNe, Nat.reduceMul, Int.reduceAdd, Int.reduceMul, Int.reduceSub, Int.reduceEq, Int.reduceNe]
      refine W_loopH [12, 22] (σ := List Int × List Int) (fun q => fb = q.1 ++ q.2) (fun q => q.2.length) (fun q => [(23, .p (.int .i64 q.1.length))]) ([], fb) (List.nil_append _).symm ?_ ?_
      · simp (config := { maxSteps := 400000 }) only [go_sem, ↓reduceIte, reduceCtorEq, Nat.reduceEqDiff, Nat.reduceAdd, Nat.reduceLT, Nat.reduceLeDiff, Nat.reduceSub, Int.reduceToNat, Int.reduceLE, Int.reduceLT, Int.reduceNeg, Int.reduceBEq, Int.reduceBNe, Nat.reduceMul, Int.reduceAdd, Int.reduceMul, Int.reduceSub, Int.reduceEq, Int.reduceNe]
      rintro ⟨done, rest⟩ e1
      dsimp only at e1
      have hll := congrArg List.length e1
      rw [List.length_append] at hll
      cases rest with
      | nil =>
        have hlt : ¬ ((done.length : Int) < (fb.length : Int)) := by simp at hll ⊢; omega
        simp (config := { maxSteps := 400000 }) only [hlt, List.length_append, List.length_map, go_sem, ↓reduceIte, reduceCtorEq, Nat.reduceEqDiff, Nat.reduceAdd, Nat.reduceLT, Nat.reduceLeDiff, Nat.reduceSub, Int.reduceToNat, Int.reduceLE, Int.reduceLT, Int.reduceNeg, Int.reduceBEq, Int.reduceBNe, Nat.reduceMul, Int.reduceAdd, Int.reduceMul, Int.reduceSub, Int.reduceEq, Int.reduceNe]
        refine WF_pure cAwake rfl ?_
        simp (config := { maxSteps := 400000 }) only [go_sem, ↓reduceIte, reduceCtorEq, Nat.reduceEqDiff, Nat.reduceAdd, Nat.reduceLT, Nat.reduceLeDiff, Nat.reduceSub, Int.reduceToNat, Int.reduceLE, Int.reduceLT, Int.reduceNeg, Int.reduceBEq, Int.reduceBNe, Nat.reduceMul, Int.reduceAdd, Int.reduceMul, Int.reduceSub, Int.reduceEq, Int.reduceNe]
      | cons n r =>
        obtain ⟨hxx, _⟩ := list_at e1
        have hlt : (done.length : Int) < (fb.length : Int) := by simp at hll ⊢; omega
        have hnx : IntKind.i64.wrap ((done.length : Int) + 1) = (((done ++ [n]).length : Nat) : Int) := wrap_add (by omega) (by simp [room] at hll ⊢; omega) (by simp)
        have hn : (fa.any fun m => m == n) = true := any_mem.2 (hB n (by rw [e1]; simp))
        have hrow : (List.map AV.p (List.map intPV fb))[done.length]? = some (.p (.int .i64 n)) := by
          have : (List.map AV.p (List.map intPV fb)) = (fb).map fun j => AV.p (.int .i64 j) := by rw [List.map_map]; rfl
          rw [this, List.getElem?_map, hxx]; rfl
        simp (config := { maxSteps := 400000 }) only [hlt, hrow, hxx, intPV, List.length_append, List.length_map, go_sem, ↓reduceIte, reduceCtorEq, Nat.reduceEqDiff, Nat.reduceAdd, Nat.reduceLT, Nat.reduceLeDiff, Nat.reduceSub, Int.reduceToNat, Int.reduceLE, Int.reduceLT, Int.reduceNeg, Int.reduceBEq, Int.reduceBNe, Nat.reduceMul, Int.reduceAdd, Int.reduceMul, Int.reduceSub, Int.reduceEq, Int.reduceNe]
        refine WF_pure (cHas fa n false (by omega)) rfl ?_
        simp (config := { maxSteps := 400000 }) only [hn, go_sem, ↓reduceIte, reduceCtorEq, Nat.reduceEqDiff, Nat.reduceAdd, Nat.reduceLT, Nat.reduceLeDiff, Nat.reduceSub, Int.reduceToNat, Int.reduceLE, Int.reduceLT, Int.reduceNeg, Int.reduceBEq, Int.reduceBNe, Nat.reduceMul, Int.reduceAdd, Int.reduceMul, Int.reduceSub, Int.reduceEq, Int.reduceNe]
        refine WQ_headA (done ++ [n], r) (by simp [e1]) (by simp) ?_
        simp (config := { maxSteps := 400000 }) only [hnx, go_sem, ↓reduceIte, reduceCtorEq, Nat.reduceEqDiff, Nat.reduceAdd, Nat.reduceLT, Nat.reduceLeDiff, Nat.reduceSub, Int.reduceToNat, Int.reduceLE, Int.reduceLT, Int.reduceNeg, Int.reduceBEq, Int.reduceBNe, Nat.reduceMul, Int.reduceAdd, Int.reduceMul, Int.reduceSub, Int.reduceEq, Int.reduceNe]
    · have nd := ne fd hd0
      simp (config := { maxSteps := 400000 }) only [u1, u2, intsPV, nb, nd, r1, r2, r3, go_sem, ↓reduceIte, reduceCtorEq, Nat.reduceEqDiff, Nat.reduceAdd, Nat.reduceLT, Nat.reduceLeDiff, Nat.reduceSub, Int.reduceToNat, Int.reduceLE, Int.reduceLT, Int.reduceNeg, Int.reduceBEq, Int.reduceBNe, Nat.reduceMul, Int.reduceAdd, Int.reduceMul, Int.reduceSub, Int.reduceEq, Int.reduceNe]
      have hin : ∀ n, n ∈ fb ++ fd → n ∈ fa := fun n hn => (List.mem_append.1 hn).elim (hB n) (hD n)
      refine W_loopH [12, 22] (σ := List Int × List Int) (fun q => fb ++ fd = q.1 ++ q.2) (fun q => q.2.length) (fun q => [(23, .p (.int .i64 q.1.length))]) ([], fb ++ fd) (List.nil_append _).symm ?_ ?_
      · simp (config := { maxSteps := 400000 }) only [go_sem, ↓reduceIte, reduceCtorEq, Nat.reduceEqDiff, Nat.reduceAdd, Nat.reduceLT, Nat.reduceLeDiff, Nat.reduceSub, Int.reduceToNat, Int.reduceLE, Int.reduceLT, Int.reduceNeg, Int.reduceBEq, Int.reduceBNe, Nat.reduceMul, Int.reduceAdd, Int.reduceMul, Int.reduceSub, Int.reduceEq, Int.reduceNe]
      rintro ⟨done, rest⟩ e1
      dsimp only at e1
      have hll := congrArg List.length e1
      rw [List.length_append] at hll
      cases rest with
      | nil =>
        have hlt : ¬ ((done.length : Int) < ((fb.length + fd.length : Nat) : Int)) := by simp at hll ⊢; omega
        simp (config := { maxSteps := 400000 }) only [hlt, List.length_append, List.length_map, go_sem, ↓reduceIte, reduceCtorEq, Nat.reduceEqDiff, Nat.reduceAdd, Nat.reduceLT, Nat.reduceLeDiff, Nat.reduceSub, Int.reduceToNat, Int.reduceLE, Int.reduceLT, Int.reduceNeg, Int.reduceBEq, Int.reduceBNe, Nat.reduceMul, Int.reduceAdd, Int.reduceMul, Int.reduceSub, Int.reduceEq, Int.reduceNe]
        refine WF_pure cAwake rfl ?_
        simp (config := { maxSteps := 400000 }) only [go_sem, ↓reduceIte, reduceCtorEq, Nat.reduceEqDiff, Nat.reduceAdd, Nat.reduceLT, Nat.reduceLeDiff, Nat.reduceSub, Int.reduceToNat, Int.reduceLE, Int.reduceLT, Int.reduceNeg, Int.reduceBEq, Int.reduceBNe, Nat.reduceMul, Int.reduceAdd, Int.reduceMul, Int.reduceSub, Int.reduceEq, Int.reduceNe]
      | cons n r =>
        obtain ⟨hxx, _⟩ := list_at e1
        have hlt : (done.length : Int) < ((fb.length + fd.length : Nat) : Int) := by simp at hll ⊢; omega
        have hnx : IntKind.i64.wrap ((done.length : Int) + 1) = (((done ++ [n]).length : Nat) : Int) := wrap_add (by omega) (by simp [room] at hll ⊢; omega) (by simp)
        have hn : (fa.any fun m => m == n) = true := any_mem.2 (hin n (by rw [e1]; simp))
        have hrow : (List.map AV.p (List.map intPV fb) ++ List.map AV.p (List.map intPV fd))[done.length]? = some (.p (.int .i64 n)) := by
          have : (List.map AV.p (List.map intPV fb) ++ List.map AV.p (List.map intPV fd)) = (fb ++ fd).map fun j => AV.p (.int .i64 j) := by rw [List.map_append, List.map_map, List.map_map]; rfl
          rw [this, List.getElem?_map, hxx]; rfl
        simp (config := { maxSteps := 400000 }) only [hlt, hrow, hxx, intPV, List.length_append, List.length_map, go_sem, ↓reduceIte, reduceCtorEq, Nat.reduceEqDiff, Nat.reduceAdd, Nat.reduceLT, Nat.reduceLeDiff, Nat.reduceSub, Int.reduceToNat, Int.reduceLE, Int.reduceLT, Int.reduceNeg, Int.reduceBEq, Int.reduceBNe, Nat.reduceMul, Int.reduceAdd, Int.reduceMul, Int.reduceSub, Int.reduceEq, Int.reduceNe]
        refine WF_pure (cHas fa n false (by omega)) rfl ?_
        simp (config := { maxSteps := 400000 }) only [hn, go_sem, ↓reduceIte, reduceCtorEq, Nat.reduceEqDiff, Nat.reduceAdd, Nat.reduceLT, Nat.reduceLeDiff, Nat.reduceSub, Int.reduceToNat, Int.reduceLE, Int.reduceLT, Int.reduceNeg, Int.reduceBEq, Int.reduceBNe, Nat.reduceMul, Int.reduceAdd, Int.reduceMul, Int.reduceSub, Int.reduceEq, Int.reduceNe]
        refine WQ_headA (done ++ [n], r) (by simp [e1]) (by simp) ?_
        simp (config := { maxSteps := 400000 }) only [hnx, go_sem, ↓reduceIte, reduceCtorEq, Nat.reduceEqDiff, Nat.reduceAdd, Nat.reduceLT, Nat.reduceLeDiff, Nat.reduceSub, Int.reduceToNat, Int.reduceLE, Int.reduceLT, Int.reduceNeg, Int.reduceBEq, Int.reduceBNe, Nat.reduceMul, Int.reduceAdd, Int.reduceMul, Int.reduceSub, Int.reduceEq, Int.reduceNe]
end Abs
end Go.Proofs.Ytdgmmijimclooaa
