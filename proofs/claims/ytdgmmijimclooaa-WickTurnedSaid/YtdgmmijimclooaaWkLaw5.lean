/-
  CONTRACTS OF THE LAWS: WickMore, WickCalm.
-/
import Derived.Test.YtdgmmijimclooaaWkLaw4
namespace Go.Proofs.Ytdgmmijimclooaa
namespace Abs
set_option linter.unusedSimpArgs false
set_option maxRecDepth 4000

/-! another shop with the same waxes -/
theorem shop_none {s : Shop} (h : shopErr s = 0) : firstErr wickErr (·.name) s.wicks [] = none ∧ firstErr waxErr (·.name) s.waxes [] = none := by
  unfold shopErr checkSpec at h
  split at h
  · split at h
    · split at h
      · cases h
      · unfold checkTail at h
        split at h
        · rename_i i e hf
          exact absurd h (firstErr_some hf)
        · rename_i hf
          split at h
          · rename_i i e hg
            exact absurd h (firstErr_some hg)
          · rename_i hg
            exact ⟨hf, hg⟩
    · cases h
  · cases h
theorem shop_mk {s : Shop} (l1 : 1 ≤ (s.wicks.length : Int) ∧ (s.wicks.length : Int) ≤ 12) (l2 : 1 ≤ (s.waxes.length : Int) ∧ (s.waxes.length : Int) ≤ 6) (hf : 0 ≤ s.flame.lo ∧ s.flame.lo ≤ s.flame.hi ∧ s.flame.hi ≤ 2000) (hp : 0 ≤ s.pool.lo ∧ s.pool.lo ≤ s.pool.hi ∧ s.pool.hi ≤ 2000)
    (h1 : firstErr wickErr (·.name) s.wicks [] = none) (h2 : firstErr waxErr (·.name) s.waxes [] = none) : shopErr s = 0 := by
  have a1 : (gIn s.wicks.length 1 12 && gIn s.waxes.length 1 6) = true := by simp only [Bool.and_eq_true, gIn_iff]; exact ⟨l1, l2⟩
  have a2 : (inS s.flame 0 2000 && inS s.pool 0 2000) = true := by simp only [Bool.and_eq_true, inS_iff]; omega
  have a3 : (turnedS s.flame || turnedS s.pool) = false := by simp only [Bool.or_eq_false_iff, turned_iff]; omega
  rw [shopErr, checkSpec, if_pos a1, if_pos a2, if_neg (by rw [a3]; simp), h1, checkTail, h2]
theorem Good.shop {s s' : Shop} {c : Candle} {x : Wax} {k : Int} {w : Wick} (g : Good s c x k w) (hw : s'.wicks = s.wicks) (hx : s'.waxes = s.waxes) (hf : 0 ≤ s'.flame.lo ∧ s'.flame.lo ≤ s'.flame.hi ∧ s'.flame.hi ≤ 2000) (hp : 0 ≤ s'.pool.lo ∧ s'.pool.lo ≤ s'.pool.hi ∧ s'.pool.hi ≤ 2000) : Good s' c x k w := by
  have so := g.s.so
  obtain ⟨n1, n2⟩ := shop_none (ask_ok g.a).1
  have h0 : shopErr s' = 0 := shop_mk (by rw [hw]; have := so.lw; omega) (by rw [hx]; have := so.lx; omega) hf hp (by rw [hw]; exact n1) (by rw [hx]; exact n2)
  refine ⟨?_, ⟨g.k.k0, by rw [hw]; exact g.k.k1, by rw [hw]; exact g.k.hw, g.k.wo⟩, ⟨shopOk_of h0, g.s.co, g.s.c0, by rw [hx]; exact g.s.c1, by rw [hx]; exact g.s.hx, g.s.xo⟩⟩
  rw [askErr, if_pos h0]
  exact candle_ok g.s.co g.s.c0 (by rw [hx]; exact g.s.c1)

/-! division -/
theorem two_lo {A R : Int} (hA : 0 ≤ A) (hR : 1 ≤ R) : 2 * (A.tdiv R) ≤ (2 * A).tdiv R := by
  rw [tdiv_pos hA, tdiv_pos (by omega), Int.le_ediv_iff_mul_le (by omega)]
  have := Int.ediv_mul_le A (show R ≠ 0 by omega)
  rw [Int.mul_assoc]
  omega
theorem two_hi {A R : Int} (hA : 0 ≤ A) (hR : 1 ≤ R) : (2 * A + R - 1).tdiv R ≤ 2 * ((A + R - 1).tdiv R) := by
  rw [tdiv_pos (by omega), tdiv_pos (by omega)]
  have h1 : A + R - 1 < ((A + R - 1) / R + 1) * R := by
    have := Int.lt_ediv_add_one_mul_self (A + R - 1) (show 0 < R by omega)
    omega
  rw [Int.add_mul] at h1
  have h2 : (2 * A + R - 1) / R < 2 * ((A + R - 1) / R) + 1 := by
    rw [Int.ediv_lt_iff_lt_mul (by omega), Int.add_mul, Int.mul_assoc]
    omega
  omega
theorem div_mono {A R R' : Int} (hA : 0 ≤ A) (hR : 1 ≤ R) (h : R ≤ R') : A.tdiv R' ≤ A.tdiv R := by
  rw [tdiv_pos hA, tdiv_pos hA, Int.le_ediv_iff_mul_le (by omega)]
  have h1 := Int.ediv_mul_le A (show R' ≠ 0 by omega)
  have h2 : 0 ≤ A / R' := Int.ediv_nonneg hA (by omega)
  have h3 : A / R' * R ≤ A / R' * R' := Int.mul_le_mul_of_nonneg_left h h2
  omega
theorem ceil_mono {A R R' : Int} (hA : 0 ≤ A) (hR : 1 ≤ R) (h : R ≤ R') : (A + R' - 1).tdiv R' ≤ (A + R - 1).tdiv R := by
  rw [tdiv_pos (by omega), tdiv_pos (by omega)]
  have h1 := Int.lt_ediv_add_one_mul_self (A + R - 1) (show 0 < R by omega)
  rw [Int.add_mul] at h1
  have h2 : 0 ≤ (A + R - 1) / R := Int.ediv_nonneg (by omega) (by omega)
  have h3 : (A + R - 1) / R * R ≤ (A + R - 1) / R * R' := Int.mul_le_mul_of_nonneg_left h h2
  have h4 : (A + R' - 1) / R' < (A + R - 1) / R + 1 := by
    rw [Int.ediv_lt_iff_lt_mul (by omega), Int.add_mul]
    omega
  omega

theorem lMore (s : Shop) (c : Candle) (y : BurntX) : PCall Try.prog 12 [s.pv, c.pv, y.pv] (.bool true) := by
  refine pcall_of_wp draws (fn := Try.f12) (n := 220) (rs := [.tmp 6]) (by kernel_rfl) rfl rfl rfl ok12 (Nat.le_of_ble_eq_true rfl) ?_
  simp (config := { maxSteps := 400000 }) only [BurntX.pv, go_sem, ↓reduceIte, reduceCtorEq, Nat.reduceEqDiff, Nat.reduceAdd, Nat.reduceLT, Nat.reduceLeDiff, Nat.reduceSub, Int.reduceToNat, Int.reduceLE, Int.reduceLT, Int.reduceNeg, Int.reduceBEq, Int.reduceBNe, Nat.reduceMul, Int.reduceAdd, Int.reduceMul, Int.reduceSub, Int.reduceEq, Int.reduceNe]
  refine WF_pure (cRefCandle s c) rfl ?_
  by_cases h0 : askErr s [] c = 0
  rotate_left
  · have h1 : (askErr s [] c != 0) = true := by simpa using h0
    simp (config := { maxSteps := 400000 }) only [h1, go_sem, ↓reduceIte, reduceCtorEq, Nat.reduceEqDiff, Nat.reduceAdd, Nat.reduceLT, Nat.reduceLeDiff, Nat.reduceSub, Int.reduceToNat, Int.reduceLE, Int.reduceLT, Int.reduceNeg, Int.reduceBEq, Int.reduceBNe, Nat.reduceMul, Int.reduceAdd, Int.reduceMul, Int.reduceSub, Int.reduceEq, Int.reduceNe]
    refine WF_pure cAwake rfl ?_
    simp (config := { maxSteps := 400000 }) only [go_sem, ↓reduceIte, reduceCtorEq, Nat.reduceEqDiff, Nat.reduceAdd, Nat.reduceLT, Nat.reduceLeDiff, Nat.reduceSub, Int.reduceToNat, Int.reduceLE, Int.reduceLT, Int.reduceNeg, Int.reduceBEq, Int.reduceBNe, Nat.reduceMul, Int.reduceAdd, Int.reduceMul, Int.reduceSub, Int.reduceEq, Int.reduceNe]
  have h1 : (askErr s [] c != 0) = false := by simpa using h0
  obtain ⟨x, hs⟩ := siteC_of h0
  have lw := hs.so.lw
  obtain ⟨m0, m1, m2, m3⟩ := wick_mod hs y.hk.1
  have wk : IntKind.i64.wrap y.k = y.k := wrap_in (by have := y.hk; omega) (by have := y.hk; omega)
  generalize hK : y.k % (s.wicks.length : Int) = k at m0 m1 m2
  obtain ⟨w, g⟩ := good_of h0 hs m1 m2
  simp (config := { maxSteps := 400000 }) only [h1, wk, m0, m3, go_sem, ↓reduceIte, reduceCtorEq, Nat.reduceEqDiff, Nat.reduceAdd, Nat.reduceLT, Nat.reduceLeDiff, Nat.reduceSub, Int.reduceToNat, Int.reduceLE, Int.reduceLT, Int.reduceNeg, Int.reduceBEq, Int.reduceBNe, Nat.reduceMul, Int.reduceAdd, Int.reduceMul, Int.reduceSub, Int.reduceEq, Int.reduceNe]
  have pU := cTruth s c x k w y g.s g.k
  have ht := truth_true g.k.wo g.s.xo g.s.co y
  generalize truthOf w x c y = t at *
  refine WF_pure pU rfl ?_
  have k0 := g.k.k0
  have k1 := g.k.k1
  have hw := g.k.hw
  have c0 := g.s.c0
  have c1 := g.s.c1
  have hx := g.s.hx
  have w0 := u16_wrap y.g0
  have w1 := u16_wrap y.g1
  have w2 := u16_wrap y.g2
  have w3 := u16_wrap y.g3
  have pw := g.k.wo.p
  have pf := g.s.xo.f
  have pr := g.s.xo.r
  have ps := g.s.xo.s
  have pg := g.s.co.g
  have pc := g.s.co.c
  have px := g.s.xo.c
  have ht' := ht
  simp only [trueB, Bool.and_eq_true, gIn_iff] at ht'
  have a0 := among_in (lo := t.pull) (hi := w.pull.hi) (n := y.n0) (by omega) (by omega) (by omega) y.g0.1
  have a1 := among_in (lo := t.flow) (hi := x.flow.hi) (n := y.n1) (by omega) (by omega) (by omega) y.g1.1
  have a2 := among_in (lo := t.draught) (hi := c.draught) (n := y.n2) (by omega) (by omega) (by omega) y.g2.1
  have a3 := among_in (lo := t.cold) (hi := c.cold.hi) (n := y.n3) (by omega) (by omega) (by omega) y.g3.1
  have q0 := cAmongS (lo := t.pull) (hi := w.pull.hi) (n := y.n0) (by omega) (by omega) (by omega) y.g0.1
  have q1 := cAmongS (lo := t.flow) (hi := x.flow.hi) (n := y.n1) (by omega) (by omega) (by omega) y.g1.1
  have q2 := cAmongS (lo := t.draught) (hi := c.draught) (n := y.n2) (by omega) (by omega) (by omega) y.g2.1
  have q3 := cAmongS (lo := t.cold) (hi := c.cold.hi) (n := y.n3) (by omega) (by omega) (by omega) y.g3.1
  generalize amongOf t.pull w.pull.hi y.n0 = b0 at *
  generalize amongOf t.flow x.flow.hi y.n1 = b1 at *
  generalize amongOf t.draught c.draught y.n2 = b2 at *
  generalize amongOf t.cold c.cold.hi y.n3 = b3 at *
  have tm : trueB w x c ⟨b0, b1, t.rise, t.spread, b2, t.cold⟩ = true := by
    simp only [trueB, Bool.and_eq_true, gIn_iff]; omega
  have tc : trueB w x c ⟨t.pull, t.flow, t.rise, t.spread, t.draught, b3⟩ = true := by
    simp only [trueB, Bool.and_eq_true, gIn_iff]; omega
  have mm : (burnOf x.chill t).rate ≤ (burnOf x.chill ⟨b0, b1, t.rise, t.spread, b2, t.cold⟩).rate ∧ (burnOf x.chill t).flame ≤ (burnOf x.chill ⟨b0, b1, t.rise, t.spread, b2, t.cold⟩).flame ∧ (burnOf x.chill t).pool ≤ (burnOf x.chill ⟨b0, b1, t.rise, t.spread, b2, t.cold⟩).pool := by
    refine burn_mono ?_ ?_ ?_ ?_ ?_ ?_ ?_ ?_ ?_ ?_ ?_ ?_ <;> first | omega | (simp only; omega)
  have mc : (burnOf x.chill ⟨t.pull, t.flow, t.rise, t.spread, t.draught, b3⟩).pool ≤ (burnOf x.chill t).pool := by
    refine (burn_mono ?_ ?_ ?_ ?_ ?_ ?_ ?_ ?_ ?_ ?_ ?_ ?_).2.2 <;> first | omega | (simp only; omega)
  have mr : (burnOf x.chill ⟨t.pull, t.flow, t.rise, t.spread, t.draught, b3⟩).rate = (burnOf x.chill t).rate := rfl
  have mf : (burnOf x.chill ⟨t.pull, t.flow, t.rise, t.spread, t.draught, b3⟩).flame = (burnOf x.chill t).flame := rfl
  have pT := g.pAt ht
  have pM := g.pAt tm
  have pC := g.pAt tc
  generalize burnOf x.chill ⟨t.pull, t.flow, t.rise, t.spread, t.draught, b3⟩ = d at *
  generalize burnOf x.chill ⟨b0, b1, t.rise, t.spread, b2, t.cold⟩ = b at *
  generalize burnOf x.chill t = a at *
  have n1 : ¬ b.rate < a.rate := by omega
  have n2 : ¬ b.flame < a.flame := by omega
  have n3 : ¬ b.pool < a.pool := by omega
  have n4 : ¬ a.pool < d.pool := by omega
  have d0 := Int.emod_nonneg y.n0 (show (50000 : Int) ≠ 0 by omega)
  have d1 := Int.emod_lt_of_pos y.n0 (show 0 < (50000 : Int) by omega)
  have e1 : IntKind.i64.wrap (1 + y.n0.tmod 50000) = 1 + y.n0 % 50000 := by
    rw [Int.tmod_eq_emod_of_nonneg y.g0.1]; exact wrap_in (by omega) (by omega)
  generalize hD : 1 + y.n0 % 50000 = n at e1
  have e2 : IntKind.i64.wrap (2 * n) = 2 * n := wrap_in (by omega) (by omega)
  have p1 := g.pMinutes (n := n) (by rw [gIn_iff]; omega)
  have p2 := g.pMinutes (n := 2 * n) (by rw [gIn_iff]; omega)
  have r := rate_pos g.k.wo g.s.xo g.s.co
  have u1 : 2 * (minSpan w x c n).lo ≤ (minSpan w x c (2 * n)).lo := by
    have := two_lo (A := 600 * n * 1000000) (R := (mostB w x c).rate) (by omega) (by omega)
    rw [show 2 * (600 * n * 1000000) = 600 * (2 * n) * 1000000 by omega] at this
    exact this
  have u2 : (minSpan w x c (2 * n)).hi ≤ 2 * (minSpan w x c n).hi := by
    have := two_hi (A := 600 * n * 1000000) (R := (leastB w x c).rate) (by omega) (by omega)
    rw [show 2 * (600 * n * 1000000) = 600 * (2 * n) * 1000000 by omega] at this
    exact this
  have u3 : 0 ≤ (minSpan w x c n).lo ∧ (minSpan w x c n).lo ≤ 600 * n * 1000000 := by
    simp only [minSpan]
    exact ⟨Int.tdiv_nonneg (by omega) (by omega), Int.tdiv_le_self _ (by omega)⟩
  have u4 : 0 ≤ (minSpan w x c n).hi ∧ (minSpan w x c n).hi ≤ 600 * n * 1000000 + (leastB w x c).rate - 1 := by
    simp only [minSpan]
    exact ⟨Int.tdiv_nonneg (by omega) (by omega), Int.tdiv_le_self _ (by omega)⟩
  generalize minSpan w x c (2 * n) = two at *
  generalize minSpan w x c n = one at *
  have v1 : IntKind.i64.wrap (2 * one.lo) = 2 * one.lo := wrap_in (by omega) (by omega)
  have v2 : IntKind.i64.wrap (2 * one.hi) = 2 * one.hi := wrap_in (by omega) (by omega)
  simp (config := { maxSteps := 400000 }) only [k0, k1, hw, c0, c1, hx, w0, w1, w2, w3, go_sem, ↓reduceIte, reduceCtorEq, Nat.reduceEqDiff, Nat.reduceAdd, Nat.reduceLT, Nat.reduceLeDiff, Nat.reduceSub, Int.reduceToNat, Int.reduceLE, Int.reduceLT, Int.reduceNeg, Int.reduceBEq, Int.reduceBNe, Nat.reduceMul, Int.reduceAdd, Int.reduceMul, Int.reduceSub, Int.reduceEq, Int.reduceNe]
  repeat' first
    | (refine WDQ_pure (cLawSpan _ _) rfl ?_; simp (config := { maxSteps := 400000 }) only [k0, k1, hw, c0, c1, hx, w0, w1, w2, w3, go_sem, ↓reduceIte, reduceCtorEq, Nat.reduceEqDiff, Nat.reduceAdd, Nat.reduceLT, Nat.reduceLeDiff, Nat.reduceSub, Int.reduceToNat, Int.reduceLE, Int.reduceLT, Int.reduceNeg, Int.reduceBEq, Int.reduceBNe, Nat.reduceMul, Int.reduceAdd, Int.reduceMul, Int.reduceSub, Int.reduceEq, Int.reduceNe])
    | (refine WDQ_pure q0 rfl ?_; simp (config := { maxSteps := 400000 }) only [k0, k1, hw, c0, c1, hx, w0, w1, w2, w3, go_sem, ↓reduceIte, reduceCtorEq, Nat.reduceEqDiff, Nat.reduceAdd, Nat.reduceLT, Nat.reduceLeDiff, Nat.reduceSub, Int.reduceToNat, Int.reduceLE, Int.reduceLT, Int.reduceNeg, Int.reduceBEq, Int.reduceBNe, Nat.reduceMul, Int.reduceAdd, Int.reduceMul, Int.reduceSub, Int.reduceEq, Int.reduceNe])
    | (refine WDQ_pure q1 rfl ?_; simp (config := { maxSteps := 400000 }) only [k0, k1, hw, c0, c1, hx, w0, w1, w2, w3, go_sem, ↓reduceIte, reduceCtorEq, Nat.reduceEqDiff, Nat.reduceAdd, Nat.reduceLT, Nat.reduceLeDiff, Nat.reduceSub, Int.reduceToNat, Int.reduceLE, Int.reduceLT, Int.reduceNeg, Int.reduceBEq, Int.reduceBNe, Nat.reduceMul, Int.reduceAdd, Int.reduceMul, Int.reduceSub, Int.reduceEq, Int.reduceNe])
    | (refine WDQ_pure q2 rfl ?_; simp (config := { maxSteps := 400000 }) only [k0, k1, hw, c0, c1, hx, w0, w1, w2, w3, go_sem, ↓reduceIte, reduceCtorEq, Nat.reduceEqDiff, Nat.reduceAdd, Nat.reduceLT, Nat.reduceLeDiff, Nat.reduceSub, Int.reduceToNat, Int.reduceLE, Int.reduceLT, Int.reduceNeg, Int.reduceBEq, Int.reduceBNe, Nat.reduceMul, Int.reduceAdd, Int.reduceMul, Int.reduceSub, Int.reduceEq, Int.reduceNe])
    | (refine WDQ_pure q3 rfl ?_; simp (config := { maxSteps := 400000 }) only [k0, k1, hw, c0, c1, hx, w0, w1, w2, w3, go_sem, ↓reduceIte, reduceCtorEq, Nat.reduceEqDiff, Nat.reduceAdd, Nat.reduceLT, Nat.reduceLeDiff, Nat.reduceSub, Int.reduceToNat, Int.reduceLE, Int.reduceLT, Int.reduceNeg, Int.reduceBEq, Int.reduceBNe, Nat.reduceMul, Int.reduceAdd, Int.reduceMul, Int.reduceSub, Int.reduceEq, Int.reduceNe])
  refine WF_pure pT rfl ?_
  simp (config := { maxSteps := 400000 }) only [go_sem, ↓reduceIte, reduceCtorEq, Nat.reduceEqDiff, Nat.reduceAdd, Nat.reduceLT, Nat.reduceLeDiff, Nat.reduceSub, Int.reduceToNat, Int.reduceLE, Int.reduceLT, Int.reduceNeg, Int.reduceBEq, Int.reduceBNe, Nat.reduceMul, Int.reduceAdd, Int.reduceMul, Int.reduceSub, Int.reduceEq, Int.reduceNe]
  refine WF_pure pM rfl ?_
  simp (config := { maxSteps := 400000 }) only [go_sem, ↓reduceIte, reduceCtorEq, Nat.reduceEqDiff, Nat.reduceAdd, Nat.reduceLT, Nat.reduceLeDiff, Nat.reduceSub, Int.reduceToNat, Int.reduceLE, Int.reduceLT, Int.reduceNeg, Int.reduceBEq, Int.reduceBNe, Nat.reduceMul, Int.reduceAdd, Int.reduceMul, Int.reduceSub, Int.reduceEq, Int.reduceNe]
  refine WF_pure pC rfl ?_
  simp (config := { maxSteps := 400000 }) only [n1, n2, n3, n4, mr, mf, bne_self_eq_false, w0, e1, List.append_eq, go_sem, ↓reduceIte, reduceCtorEq, Nat.reduceEqDiff, Nat.reduceAdd, Nat.reduceLT, Nat.reduceLeDiff, Nat.reduceSub, Int.reduceToNat, Int.reduceLE, Int.reduceLT, Int.reduceNeg, Int.reduceBEq, Int.reduceBNe, Nat.reduceMul, Int.reduceAdd, Int.reduceMul, Int.reduceSub, Int.reduceEq, Int.reduceNe]
  refine WF_pure p1 rfl ?_
  simp (config := { maxSteps := 400000 }) only [e2, go_sem, ↓reduceIte, reduceCtorEq, Nat.reduceEqDiff, Nat.reduceAdd, Nat.reduceLT, Nat.reduceLeDiff, Nat.reduceSub, Int.reduceToNat, Int.reduceLE, Int.reduceLT, Int.reduceNeg, Int.reduceBEq, Int.reduceBNe, Nat.reduceMul, Int.reduceAdd, Int.reduceMul, Int.reduceSub, Int.reduceEq, Int.reduceNe]
  refine WF_pure p2 rfl ?_
  simp (config := { maxSteps := 400000 }) only [v1, v2, u1, u2, go_sem, ↓reduceIte, reduceCtorEq, Nat.reduceEqDiff, Nat.reduceAdd, Nat.reduceLT, Nat.reduceLeDiff, Nat.reduceSub, Int.reduceToNat, Int.reduceLE, Int.reduceLT, Int.reduceNeg, Int.reduceBEq, Int.reduceBNe, Nat.reduceMul, Int.reduceAdd, Int.reduceMul, Int.reduceSub, Int.reduceEq, Int.reduceNe]
  refine WF_pure cAwake rfl ?_
  simp (config := { maxSteps := 400000 }) only [go_sem, ↓reduceIte, reduceCtorEq, Nat.reduceEqDiff, Nat.reduceAdd, Nat.reduceLT, Nat.reduceLeDiff, Nat.reduceSub, Int.reduceToNat, Int.reduceLE, Int.reduceLT, Int.reduceNeg, Int.reduceBEq, Int.reduceBNe, Nat.reduceMul, Int.reduceAdd, Int.reduceMul, Int.reduceSub, Int.reduceEq, Int.reduceNe]
end Abs
end Go.Proofs.Ytdgmmijimclooaa
