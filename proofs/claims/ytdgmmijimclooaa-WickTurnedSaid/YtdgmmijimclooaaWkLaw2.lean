/-
  CONTRACTS OF THE LAWS that speak of ANY truth: truths out of raw numbers; WickTruth, WickSizes.
-/
import Derived.Test.YtdgmmijimclooaaWkInv
namespace Go.Proofs.Ytdgmmijimclooaa
namespace Abs
set_option linter.unusedSimpArgs false
set_option maxRecDepth 4000

theorem among_eq {lo hi n : Int} (h0 : -1000000 ≤ lo) (h1 : lo ≤ hi) (h2 : hi ≤ 1000000) (h3 : 0 ≤ n) : amongOf lo hi n = lo + n % (hi - lo + 1) ∧ IntKind.i64.wrap (IntKind.i64.wrap (hi - lo) + 1) ≠ 0 := by
  have w1 : IntKind.i64.wrap (hi - lo) = hi - lo := wrap_in (by omega) (by omega)
  have w2 : IntKind.i64.wrap (hi - lo + 1) = hi - lo + 1 := wrap_in (by omega) (by omega)
  have m0 := Int.emod_nonneg n (show hi - lo + 1 ≠ 0 by omega)
  have m1 := Int.emod_lt_of_pos n (show 0 < hi - lo + 1 by omega)
  refine ⟨?_, by rw [w1, w2]; omega⟩
  unfold amongOf
  rw [w1, w2, Int.tmod_eq_emod_of_nonneg h3]
  exact wrap_in (by omega) (by omega)
theorem among_in {lo hi n : Int} (h0 : -1000000 ≤ lo) (h1 : lo ≤ hi) (h2 : hi ≤ 1000000) (h3 : 0 ≤ n) : lo ≤ amongOf lo hi n ∧ amongOf lo hi n ≤ hi := by
  rw [(among_eq h0 h1 h2 h3).1]
  have m0 := Int.emod_nonneg n (show hi - lo + 1 ≠ 0 by omega)
  have m1 := Int.emod_lt_of_pos n (show 0 < hi - lo + 1 by omega)
  omega
theorem cAmongS {lo hi n : Int} (h0 : -1000000 ≤ lo) (h1 : lo ≤ hi) (h2 : hi ≤ 1000000) (h3 : 0 ≤ n) : PCall Try.prog 41 [.agg [.int .i64 lo, .int .i64 hi], .int .i64 n] (.int .i64 (amongOf lo hi n)) :=
  cAmong lo hi n (among_eq h0 h1 h2 h3).2

/-- the truth of these numbers -/
def truthOf (w : Wick) (x : Wax) (c : Candle) (y : BurntX) : Truth :=
  ⟨amongOf w.pull.lo w.pull.hi y.x0, amongOf x.flow.lo x.flow.hi y.x1, amongOf x.rise.lo x.rise.hi y.x2, amongOf x.spread.lo x.spread.hi y.x3, amongOf (-c.draught) c.draught y.x4, amongOf c.cold.lo c.cold.hi y.x5⟩
theorem u16_wrap {n : Int} (h : 0 ≤ n ∧ n ≤ 65535) : IntKind.i64.wrap n = n := wrap_in (by omega) (by omega)
theorem truth_true {w : Wick} {x : Wax} {c : Candle} (hw : WickOk w) (hx : WaxOk x) (hc : CandleOk c) (y : BurntX) : trueB w x c (truthOf w x c y) = true := by
  have a0 := among_in (lo := w.pull.lo) (hi := w.pull.hi) (n := y.x0) (by have := hw.p; omega) (by have := hw.p; omega) (by have := hw.p; omega) y.h0.1
  have a1 := among_in (lo := x.flow.lo) (hi := x.flow.hi) (n := y.x1) (by have := hx.f; omega) (by have := hx.f; omega) (by have := hx.f; omega) y.h1.1
  have a2 := among_in (lo := x.rise.lo) (hi := x.rise.hi) (n := y.x2) (by have := hx.r; omega) (by have := hx.r; omega) (by have := hx.r; omega) y.h2.1
  have a3 := among_in (lo := x.spread.lo) (hi := x.spread.hi) (n := y.x3) (by have := hx.s; omega) (by have := hx.s; omega) (by have := hx.s; omega) y.h3.1
  have a4 := among_in (lo := -c.draught) (hi := c.draught) (n := y.x4) (by have := hc.g; omega) (by have := hc.g; omega) (by have := hc.g; omega) y.h4.1
  have a5 := among_in (lo := c.cold.lo) (hi := c.cold.hi) (n := y.x5) (by have := hc.c; omega) (by have := hc.c; omega) (by have := hc.c; omega) y.h5.1
  simp only [trueB, truthOf, Bool.and_eq_true, gIn_iff]
  exact ⟨a0, a1, a2, a3, a4, a5⟩
theorem cTruth (s : Shop) (c : Candle) (x : Wax) (k : Int) (w : Wick) (y : BurntX) (hs : Site s c x) (hk : SiteK s k w) :
    PCall Try.prog 37 [s.pv, .int .i64 k, c.pv, .agg [.int .u16 y.x0, .int .u16 y.x1, .int .u16 y.x2, .int .u16 y.x3, .int .u16 y.x4, .int .u16 y.x5]] (truthOf w x c y).pv := by
  have k0 := hk.k0
  have k1 := hk.k1
  have hw := hk.hw
  have c0 := hs.c0
  have c1 := hs.c1
  have hx := hs.hx
  have hn : IntKind.i64.wrap (-c.draught) = -c.draught := wrap_in (by have := hs.co.g; omega) (by have := hs.co.g; omega)
  have w0 := u16_wrap y.h0
  have w1 := u16_wrap y.h1
  have w2 := u16_wrap y.h2
  have w3 := u16_wrap y.h3
  have w4 := u16_wrap y.h4
  have w5 := u16_wrap y.h5
  have pw := hk.wo.p
  have pf := hs.xo.f
  have pr := hs.xo.r
  have ps := hs.xo.s
  have pg := hs.co.g
  have pc := hs.co.c
  refine pcall_of_wp draws (fn := Try.f37) (n := 61) (rs := [.cell 8 36]) (by kernel_rfl) rfl rfl rfl ok37 (Nat.le_of_ble_eq_true rfl) ?_
  simp (config := { maxSteps := 400000 }) only [k0, k1, hw, c0, c1, hx, hn, w0, w1, w2, w3, w4, w5, go_sem, ↓reduceIte, reduceCtorEq, Nat.reduceEqDiff, Nat.reduceAdd, Nat.reduceLT, Nat.reduceLeDiff, Nat.reduceSub, Int.reduceToNat, Int.reduceLE, Int.reduceLT, Int.reduceNeg, Int.reduceBEq, Int.reduceBNe, Nat.reduceMul, Int.reduceAdd, Int.reduceMul, Int.reduceSub, Int.reduceEq, Int.reduceNe]
  repeat' first
    | (refine WDQ_pure (cLawSpan _ _) rfl ?_; simp (config := { maxSteps := 400000 }) only [k0, k1, hw, c0, c1, hx, hn, w0, w1, w2, w3, w4, w5, truthOf, go_sem, ↓reduceIte, reduceCtorEq, Nat.reduceEqDiff, Nat.reduceAdd, Nat.reduceLT, Nat.reduceLeDiff, Nat.reduceSub, Int.reduceToNat, Int.reduceLE, Int.reduceLT, Int.reduceNeg, Int.reduceBEq, Int.reduceBNe, Nat.reduceMul, Int.reduceAdd, Int.reduceMul, Int.reduceSub, Int.reduceEq, Int.reduceNe])
    | (refine WDQ_pure (cAmongS (by omega) (by omega) (by omega) y.h0.1) rfl ?_; simp (config := { maxSteps := 400000 }) only [k0, k1, hw, c0, c1, hx, hn, w0, w1, w2, w3, w4, w5, truthOf, go_sem, ↓reduceIte, reduceCtorEq, Nat.reduceEqDiff, Nat.reduceAdd, Nat.reduceLT, Nat.reduceLeDiff, Nat.reduceSub, Int.reduceToNat, Int.reduceLE, Int.reduceLT, Int.reduceNeg, Int.reduceBEq, Int.reduceBNe, Nat.reduceMul, Int.reduceAdd, Int.reduceMul, Int.reduceSub, Int.reduceEq, Int.reduceNe])
    | (refine WDQ_pure (cAmongS (by omega) (by omega) (by omega) y.h1.1) rfl ?_; simp (config := { maxSteps := 400000 }) only [k0, k1, hw, c0, c1, hx, hn, w0, w1, w2, w3, w4, w5, truthOf, go_sem, ↓reduceIte, reduceCtorEq, Nat.reduceEqDiff, Nat.reduceAdd, Nat.reduceLT, Nat.reduceLeDiff, Nat.reduceSub, Int.reduceToNat, Int.reduceLE, Int.reduceLT, Int.reduceNeg, Int.reduceBEq, Int.reduceBNe, Nat.reduceMul, Int.reduceAdd, Int.reduceMul, Int.reduceSub, Int.reduceEq, Int.reduceNe])
    | (refine WDQ_pure (cAmongS (by omega) (by omega) (by omega) y.h2.1) rfl ?_; simp (config := { maxSteps := 400000 }) only [k0, k1, hw, c0, c1, hx, hn, w0, w1, w2, w3, w4, w5, truthOf, go_sem, ↓reduceIte, reduceCtorEq, Nat.reduceEqDiff, Nat.reduceAdd, Nat.reduceLT, Nat.reduceLeDiff, Nat.reduceSub, Int.reduceToNat, Int.reduceLE, Int.reduceLT, Int.reduceNeg, Int.reduceBEq, Int.reduceBNe, Nat.reduceMul, Int.reduceAdd, Int.reduceMul, Int.reduceSub, Int.reduceEq, Int.reduceNe])
    | (refine WDQ_pure (cAmongS (by omega) (by omega) (by omega) y.h3.1) rfl ?_; simp (config := { maxSteps := 400000 }) only [k0, k1, hw, c0, c1, hx, hn, w0, w1, w2, w3, w4, w5, truthOf, go_sem, ↓reduceIte, reduceCtorEq, Nat.reduceEqDiff, Nat.reduceAdd, Nat.reduceLT, Nat.reduceLeDiff, Nat.reduceSub, Int.reduceToNat, Int.reduceLE, Int.reduceLT, Int.reduceNeg, Int.reduceBEq, Int.reduceBNe, Nat.reduceMul, Int.reduceAdd, Int.reduceMul, Int.reduceSub, Int.reduceEq, Int.reduceNe])
    | (refine WDQ_pure (cAmongS (by omega) (by omega) (by omega) y.h4.1) rfl ?_; simp (config := { maxSteps := 400000 }) only [k0, k1, hw, c0, c1, hx, hn, w0, w1, w2, w3, w4, w5, truthOf, go_sem, ↓reduceIte, reduceCtorEq, Nat.reduceEqDiff, Nat.reduceAdd, Nat.reduceLT, Nat.reduceLeDiff, Nat.reduceSub, Int.reduceToNat, Int.reduceLE, Int.reduceLT, Int.reduceNeg, Int.reduceBEq, Int.reduceBNe, Nat.reduceMul, Int.reduceAdd, Int.reduceMul, Int.reduceSub, Int.reduceEq, Int.reduceNe])
    | (refine WDQ_pure (cAmongS (by omega) (by omega) (by omega) y.h5.1) rfl ?_; simp (config := { maxSteps := 400000 }) only [k0, k1, hw, c0, c1, hx, hn, w0, w1, w2, w3, w4, w5, truthOf, go_sem, ↓reduceIte, reduceCtorEq, Nat.reduceEqDiff, Nat.reduceAdd, Nat.reduceLT, Nat.reduceLeDiff, Nat.reduceSub, Int.reduceToNat, Int.reduceLE, Int.reduceLT, Int.reduceNeg, Int.reduceBEq, Int.reduceBNe, Nat.reduceMul, Int.reduceAdd, Int.reduceMul, Int.reduceSub, Int.reduceEq, Int.reduceNe])

/-- which wick -/
theorem wick_mod {s : Shop} {c : Candle} {x : Wax} (hs : Site s c x) {n : Int} (h : 0 ≤ n) : n.tmod (s.wicks.length : Int) = n % (s.wicks.length : Int) ∧ 0 ≤ n % (s.wicks.length : Int) ∧ n % (s.wicks.length : Int) < (s.wicks.length : Int) ∧ (s.wicks.length : Int) ≠ 0 := by
  have := hs.so.lw
  have m0 := Int.emod_nonneg n (show (s.wicks.length : Int) ≠ 0 by omega)
  have m1 := Int.emod_lt_of_pos n (show 0 < (s.wicks.length : Int) by omega)
  rw [Int.tmod_eq_emod_of_nonneg h]
  exact ⟨rfl, m0, m1, by omega⟩
theorem ask_k {s : Shop} {c : Candle} (h : askErr s [] c = 0) {k : Int} (h0 : 0 ≤ k) (h1 : k < (s.wicks.length : Int)) : askErr s [k] c = 0 := by
  unfold askErr at h ⊢
  split at h
  · rename_i h2
    rw [if_pos h2]
    have : gIn k 0 ((s.wicks.length : Int) - 1) = true := gIn_iff.2 ⟨h0, by omega⟩
    simpa [this] using h
  · rename_i h2
    exact absurd h h2
/-! what is returned for valid data -/
structure Good (s : Shop) (c : Candle) (x : Wax) (k : Int) (w : Wick) : Prop where
  a : askErr s [] c = 0
  k : SiteK s k w
  s : Site s c x
theorem Good.ak {s : Shop} {c : Candle} {x : Wax} {k : Int} {w : Wick} (g : Good s c x k w) : askErr s [k] c = 0 := ask_k g.a g.k.k0 g.k.k1
theorem good_of {s : Shop} {c : Candle} {x : Wax} (h : askErr s [] c = 0) (hs : Site s c x) {k : Int} (h0 : 0 ≤ k) (h1 : k < (s.wicks.length : Int)) : ∃ w, Good s c x k w := by
  obtain ⟨w, hk⟩ := siteK_of hs.so h0 h1
  exact ⟨w, h, hk, hs⟩
section
variable {s : Shop} {c : Candle} {x : Wax} {k : Int} {w : Wick}
theorem Good.pAt (g : Good s c x k w) {t : Truth} (ht : trueB w x c t = true) : PCall Try.prog 17 [s.pv, .int .i64 k, c.pv, t.pv] (.tuple [(burnOf x.chill t).pv, .int .i64 0]) := by
  have h := cWickAt s k c t w x fun _ => ⟨g.s, g.k⟩
  rwa [show atSpec s k c t w x = (burnOf x.chill t, 0) by rw [atSpec, if_pos g.ak, if_pos ht]] at h
theorem Good.pBurn (g : Good s c x k w) : PCall Try.prog 19 [s.pv, .int .i64 k, c.pv] (.tuple [(leastB w x c).pv, (mostB w x c).pv, .int .i64 0]) := by
  have h := cWickBurn s k c w x fun _ => ⟨g.s, g.k⟩
  rwa [show burnSpec s k c w x = (leastB w x c, mostB w x c, 0) by rw [burnSpec, if_pos g.ak]] at h
theorem Good.pFaults (g : Good s c x k w) : PCall Try.prog 23 [s.pv, .int .i64 k, c.pv] (.tuple [intsPV (faultsOf s c.diameter (leastB w x c) (mostB w x c)), .int .i64 0]) := by
  have h := cWickFaults s k c w x fun _ => ⟨g.s, g.k⟩
  rwa [show faultsSpec s k c w x = (faultsOf s c.diameter (leastB w x c) (mostB w x c), 0) by rw [faultsSpec, if_pos g.ak]] at h
theorem Good.pSizes (g : Good s c x k w) : PCall Try.prog 30 [s.pv, .int .i64 k, c.pv] (.tuple [(szSpan s (leastB w x c) (mostB w x c)).1.pv, .int .i64 (szSpan s (leastB w x c) (mostB w x c)).2]) := by
  have h := cWickSizes s k c w x fun _ => ⟨g.s, g.k⟩
  rwa [show sizesSpec s k c w x = szSpan s (leastB w x c) (mostB w x c) by rw [sizesSpec, if_pos g.ak]] at h
theorem Good.pMinutes (g : Good s c x k w) {n : Int} (hn : gIn n 1 100000 = true) : PCall Try.prog 21 [s.pv, .int .i64 k, c.pv, .int .i64 n] (.tuple [(minSpan w x c n).pv, .int .i64 0]) := by
  have h := cWickMinutes s k c n w x fun _ => ⟨g.s, g.k⟩
  rwa [show minSpec s k c n w x = (minSpan w x c n, 0) by rw [minSpec, if_pos g.ak, if_pos hn]] at h
theorem Good.pSuits (g : Good s c x k w) : PCall Try.prog 26 [s.pv, c.pv] (.tuple [intsPV (suitsGo s c x s.wicks 0), .int .i64 0]) := by
  have h := cWickSuits s c x fun _ => g.s
  rwa [show suitsSpec s c x = (suitsGo s c x s.wicks 0, 0) by rw [suitsSpec, if_pos g.a]] at h
theorem Good.least (g : Good s c x k w) : trueB w x c (leastT w x c) = true := by
  have := g.k.wo.p; have := g.s.xo.f; have := g.s.xo.r; have := g.s.xo.s; have := g.s.co.g; have := g.s.co.c
  simp only [trueB, leastT, Bool.and_eq_true, gIn_iff]
  omega
theorem Good.most (g : Good s c x k w) : trueB w x c (mostT w x c) = true := by
  have := g.k.wo.p; have := g.s.xo.f; have := g.s.xo.r; have := g.s.xo.s; have := g.s.co.g; have := g.s.co.c
  simp only [trueB, mostT, Bool.and_eq_true, gIn_iff]
  omega
/-- a truth burns between the ends -/
theorem Good.between (g : Good s c x k w) {t : Truth} (ht : trueB w x c t = true) :
    ((leastB w x c).rate ≤ (burnOf x.chill t).rate ∧ (leastB w x c).flame ≤ (burnOf x.chill t).flame ∧ (leastB w x c).pool ≤ (burnOf x.chill t).pool) ∧
    ((burnOf x.chill t).rate ≤ (mostB w x c).rate ∧ (burnOf x.chill t).flame ≤ (mostB w x c).flame ∧ (burnOf x.chill t).pool ≤ (mostB w x c).pool) := by
  have := g.k.wo.p; have := g.s.xo.f; have := g.s.xo.r; have := g.s.xo.s; have := g.s.xo.c; have := g.s.co.g; have := g.s.co.c
  simp only [trueB, Bool.and_eq_true, gIn_iff] at ht
  constructor <;> (refine burn_mono ?_ ?_ ?_ ?_ ?_ ?_ ?_ ?_ ?_ ?_ ?_ ?_ <;> first | omega | (simp only [leastT, mostT]; omega))
end

/-- the law, for data that are refused -/
theorem lTruth (s : Shop) (c : Candle) (y : BurntX) : PCall Try.prog 7 [s.pv, c.pv, y.pv] (.bool true) := by
  refine pcall_of_wp draws (fn := Try.f7) (n := 159) (rs := [.tmp 6]) (by kernel_rfl) rfl rfl rfl ok7 (Nat.le_of_ble_eq_true rfl) ?_
  simp (config := { maxSteps := 400000 }) only [H7, W_drawH, BurntX.pv, go_sem, ↓reduceIte, reduceCtorEq, Nat.reduceEqDiff, Nat.reduceAdd, Nat.reduceLT, Nat.reduceLeDiff, Nat.reduceSub, Int.reduceToNat, Int.reduceLE, Int.reduceLT, Int.reduceNeg, Int.reduceBEq, Int.reduceBNe, Nat.reduceMul, Int.reduceAdd, Int.reduceMul, Int.reduceSub, Int.reduceEq, Int.reduceNe]
  refine WF_pure (cRefCandle s c) rfl ?_
  simp (config := { maxSteps := 400000 }) only [H7, W_drawH, go_sem, ↓reduceIte, reduceCtorEq, Nat.reduceEqDiff, Nat.reduceAdd, Nat.reduceLT, Nat.reduceLeDiff, Nat.reduceSub, Int.reduceToNat, Int.reduceLE, Int.reduceLT, Int.reduceNeg, Int.reduceBEq, Int.reduceBNe, Nat.reduceMul, Int.reduceAdd, Int.reduceMul, Int.reduceSub, Int.reduceEq, Int.reduceNe]
  by_cases h0 : askErr s [] c = 0
  rotate_left
  · have h1 : (askErr s [] c != 0) = true := by simpa using h0
    simp (config := { maxSteps := 400000 }) only [H7, W_drawH, h1, go_sem, ↓reduceIte, reduceCtorEq, Nat.reduceEqDiff, Nat.reduceAdd, Nat.reduceLT, Nat.reduceLeDiff, Nat.reduceSub, Int.reduceToNat, Int.reduceLE, Int.reduceLT, Int.reduceNeg, Int.reduceBEq, Int.reduceBNe, Nat.reduceMul, Int.reduceAdd, Int.reduceMul, Int.reduceSub, Int.reduceEq, Int.reduceNe]
    have hS := cWickSuits s c waxX fun h => absurd h h0
    rw [show suitsSpec s c waxX = ([], askErr s [] c) by rw [suitsSpec, if_neg h0]] at hS
    refine WF_pure hS rfl ?_
    simp (config := { maxSteps := 400000 }) only [H7, W_drawH, h1, go_sem, ↓reduceIte, reduceCtorEq, Nat.reduceEqDiff, Nat.reduceAdd, Nat.reduceLT, Nat.reduceLeDiff, Nat.reduceSub, Int.reduceToNat, Int.reduceLE, Int.reduceLT, Int.reduceNeg, Int.reduceBEq, Int.reduceBNe, Nat.reduceMul, Int.reduceAdd, Int.reduceMul, Int.reduceSub, Int.reduceEq, Int.reduceNe]
    refine WF_pure cAwake rfl ?_
    simp (config := { maxSteps := 400000 }) only [H7, W_drawH, go_sem, ↓reduceIte, reduceCtorEq, Nat.reduceEqDiff, Nat.reduceAdd, Nat.reduceLT, Nat.reduceLeDiff, Nat.reduceSub, Int.reduceToNat, Int.reduceLE, Int.reduceLT, Int.reduceNeg, Int.reduceBEq, Int.reduceBNe, Nat.reduceMul, Int.reduceAdd, Int.reduceMul, Int.reduceSub, Int.reduceEq, Int.reduceNe]
  have h1 : (askErr s [] c != 0) = false := by simpa using h0
  obtain ⟨x, hs⟩ := siteC_of h0
  obtain ⟨m0, m1, m2, m3⟩ := wick_mod hs y.hk.1
  have wk : IntKind.i64.wrap y.k = y.k := wrap_in (by have := y.hk; omega) (by have := y.hk; omega)
  generalize hK : y.k % (s.wicks.length : Int) = k at m0 m1 m2
  obtain ⟨w, g⟩ := good_of h0 hs m1 m2
  simp (config := { maxSteps := 400000 }) only [H7, W_drawH, h1, wk, m0, m3, go_sem, ↓reduceIte, reduceCtorEq, Nat.reduceEqDiff, Nat.reduceAdd, Nat.reduceLT, Nat.reduceLeDiff, Nat.reduceSub, Int.reduceToNat, Int.reduceLE, Int.reduceLT, Int.reduceNeg, Int.reduceBEq, Int.reduceBNe, Nat.reduceMul, Int.reduceAdd, Int.reduceMul, Int.reduceSub, Int.reduceEq, Int.reduceNe]
  refine WF_pure g.pBurn rfl ?_
  have b := g.between (truth_true g.k.wo g.s.xo g.s.co y)
  have r := rate_pos g.k.wo g.s.xo g.s.co
  have pT := g.pAt (truth_true g.k.wo g.s.xo g.s.co y)
  have pL := g.pAt g.least
  have pM := g.pAt g.most
  have eL : burnOf x.chill (leastT w x c) = leastB w x c := rfl
  have eM : burnOf x.chill (mostT w x c) = mostB w x c := rfl
  rw [eL] at pL
  rw [eM] at pM
  have pB := g.pBurn
  have pU := cTruth s c x k w y g.s g.k
  have pE := cRefEnds s c x k w g.s g.k
  generalize leastB w x c = l at *
  generalize mostB w x c = m at *
  generalize burnOf x.chill (truthOf w x c y) = d at *
  generalize truthOf w x c y = t at *
  generalize leastT w x c = tl at *
  generalize mostT w x c = tm at *
  obtain ⟨⟨b1, b2, b3⟩, b4, b5, b6⟩ := b
  simp (config := { maxSteps := 400000 }) only [H7, W_drawH, go_sem, ↓reduceIte, reduceCtorEq, Nat.reduceEqDiff, Nat.reduceAdd, Nat.reduceLT, Nat.reduceLeDiff, Nat.reduceSub, Int.reduceToNat, Int.reduceLE, Int.reduceLT, Int.reduceNeg, Int.reduceBEq, Int.reduceBNe, Nat.reduceMul, Int.reduceAdd, Int.reduceMul, Int.reduceSub, Int.reduceEq, Int.reduceNe]
  refine WDQ_pure pU rfl ?_
  simp (config := { maxSteps := 400000 }) only [H7, W_drawH, go_sem, ↓reduceIte, reduceCtorEq, Nat.reduceEqDiff, Nat.reduceAdd, Nat.reduceLT, Nat.reduceLeDiff, Nat.reduceSub, Int.reduceToNat, Int.reduceLE, Int.reduceLT, Int.reduceNeg, Int.reduceBEq, Int.reduceBNe, Nat.reduceMul, Int.reduceAdd, Int.reduceMul, Int.reduceSub, Int.reduceEq, Int.reduceNe]
  refine WDQ_pure pT rfl ?_
  simp (config := { maxSteps := 400000 }) only [H7, W_drawH, go_sem, ↓reduceIte, reduceCtorEq, Nat.reduceEqDiff, Nat.reduceAdd, Nat.reduceLT, Nat.reduceLeDiff, Nat.reduceSub, Int.reduceToNat, Int.reduceLE, Int.reduceLT, Int.reduceNeg, Int.reduceBEq, Int.reduceBNe, Nat.reduceMul, Int.reduceAdd, Int.reduceMul, Int.reduceSub, Int.reduceEq, Int.reduceNe]
  refine WF_pure pE rfl ?_
  simp (config := { maxSteps := 400000 }) only [H7, W_drawH, go_sem, ↓reduceIte, reduceCtorEq, Nat.reduceEqDiff, Nat.reduceAdd, Nat.reduceLT, Nat.reduceLeDiff, Nat.reduceSub, Int.reduceToNat, Int.reduceLE, Int.reduceLT, Int.reduceNeg, Int.reduceBEq, Int.reduceBNe, Nat.reduceMul, Int.reduceAdd, Int.reduceMul, Int.reduceSub, Int.reduceEq, Int.reduceNe]
  refine WF_pure pL rfl ?_
  simp (config := { maxSteps := 400000 }) only [H7, W_drawH, go_sem, ↓reduceIte, reduceCtorEq, Nat.reduceEqDiff, Nat.reduceAdd, Nat.reduceLT, Nat.reduceLeDiff, Nat.reduceSub, Int.reduceToNat, Int.reduceLE, Int.reduceLT, Int.reduceNeg, Int.reduceBEq, Int.reduceBNe, Nat.reduceMul, Int.reduceAdd, Int.reduceMul, Int.reduceSub, Int.reduceEq, Int.reduceNe]
  refine WF_pure pM rfl ?_
  have r1 : 0 < l.rate := by omega
  simp (config := { maxSteps := 400000 }) only [H7, W_drawH, beq_self_eq_true, b1, b2, b3, b4, b5, b6, r1, List.append_eq, go_sem, ↓reduceIte, reduceCtorEq, Nat.reduceEqDiff, Nat.reduceAdd, Nat.reduceLT, Nat.reduceLeDiff, Nat.reduceSub, Int.reduceToNat, Int.reduceLE, Int.reduceLT, Int.reduceNeg, Int.reduceBEq, Int.reduceBNe, Nat.reduceMul, Int.reduceAdd, Int.reduceMul, Int.reduceSub, Int.reduceEq, Int.reduceNe]
  refine WF_pure cAwake rfl ?_
  simp (config := { maxSteps := 400000 }) only [H7, W_drawH, go_sem, ↓reduceIte, reduceCtorEq, Nat.reduceEqDiff, Nat.reduceAdd, Nat.reduceLT, Nat.reduceLeDiff, Nat.reduceSub, Int.reduceToNat, Int.reduceLE, Int.reduceLT, Int.reduceNeg, Int.reduceBEq, Int.reduceBNe, Nat.reduceMul, Int.reduceAdd, Int.reduceMul, Int.reduceSub, Int.reduceEq, Int.reduceNe]
theorem candle_ok {s : Shop} {c : Candle} (h : CandleOk c) (h0 : 0 ≤ c.wax) (h1 : c.wax < (s.waxes.length : Int)) : candleErr s c = 0 := by
  have a1 : gIn c.wax 0 ((s.waxes.length : Int) - 1) = true := gIn_iff.2 ⟨h0, by omega⟩
  have a2 : gIn c.diameter 1 2000 = true := gIn_iff.2 h.d
  have a3 : gIn c.draught 0 90 = true := gIn_iff.2 h.g
  have a4 : inS c.cold 0 300 = true := inS_iff.2 (by have := h.c; omega)
  have a5 : turnedS c.cold = false := by unfold turnedS; simp; exact h.c.2.1
  rw [candleErr, if_pos a1, a2, a3, a4, a5]
  rfl
/-- another candle of the same wax -/
theorem Good.candle {s : Shop} {c c' : Candle} {x : Wax} {k : Int} {w : Wick} (g : Good s c x k w) (hw : c'.wax = c.wax) (ho : CandleOk c') : Good s c' x k w := by
  have h0 := g.s.c0
  have h1 := g.s.c1
  have hx := g.s.hx
  rw [← hw] at h0 h1 hx
  refine ⟨?_, g.k, ⟨g.s.so, ho, h0, h1, hx, g.s.xo⟩⟩
  have hs := (ask_ok g.a).1
  rw [askErr, if_pos hs]
  exact candle_ok ho h0 h1
theorem lSizes (s : Shop) (c : Candle) (a b : Int) (ha : 0 ≤ a ∧ a ≤ 65535) (hb : 0 ≤ b ∧ b ≤ 65535) : PCall Try.prog 10 [s.pv, c.pv, .agg [.int .u16 a, .int .u16 b]] (.bool true) := by
  refine pcall_of_wp draws (fn := Try.f10) (n := 79) (rs := [.tmp 6]) (by kernel_rfl) rfl rfl rfl ok10 (Nat.le_of_ble_eq_true rfl) ?_
  simp (config := { maxSteps := 400000 }) only [go_sem, ↓reduceIte, reduceCtorEq, Nat.reduceEqDiff, Nat.reduceAdd, Nat.reduceLT, Nat.reduceLeDiff, Nat.reduceSub, Int.reduceToNat, Int.reduceLE, Int.reduceLT, Int.reduceNeg, Int.reduceBEq, Int.reduceBNe, Nat.reduceMul, Int.reduceAdd, Int.reduceMul, Int.reduceSub, Int.reduceEq, Int.reduceNe]
  refine WF_pure (cRefCandle s c) rfl ?_
  simp (config := { maxSteps := 400000 }) only [go_sem, ↓reduceIte, reduceCtorEq, Nat.reduceEqDiff, Nat.reduceAdd, Nat.reduceLT, Nat.reduceLeDiff, Nat.reduceSub, Int.reduceToNat, Int.reduceLE, Int.reduceLT, Int.reduceNeg, Int.reduceBEq, Int.reduceBNe, Nat.reduceMul, Int.reduceAdd, Int.reduceMul, Int.reduceSub, Int.reduceEq, Int.reduceNe]
  by_cases h0 : askErr s [] c = 0
  rotate_left
  · have h1 : (askErr s [] c != 0) = true := by simpa using h0
    simp (config := { maxSteps := 400000 }) only [h1, go_sem, ↓reduceIte, reduceCtorEq, Nat.reduceEqDiff, Nat.reduceAdd, Nat.reduceLT, Nat.reduceLeDiff, Nat.reduceSub, Int.reduceToNat, Int.reduceLE, Int.reduceLT, Int.reduceNeg, Int.reduceBEq, Int.reduceBNe, Nat.reduceMul, Int.reduceAdd, Int.reduceMul, Int.reduceSub, Int.reduceEq, Int.reduceNe]
    refine WF_pure cAwake rfl ?_
    simp (config := { maxSteps := 400000 }) only [go_sem, ↓reduceIte, reduceCtorEq, Nat.reduceEqDiff, Nat.reduceAdd, Nat.reduceLT, Nat.reduceLeDiff, Nat.reduceSub, Int.reduceToNat, Int.reduceLE, Int.reduceLT, Int.reduceNeg, Int.reduceBEq, Int.reduceBNe, Nat.reduceMul, Int.reduceAdd, Int.reduceMul, Int.reduceSub, Int.reduceEq, Int.reduceNe]
  have h1 : (askErr s [] c != 0) = false := by simpa using h0
  obtain ⟨x, hs⟩ := siteC_of h0
  obtain ⟨m0, m1, m2, m3⟩ := wick_mod hs ha.1
  have wa := u16_wrap ha
  have wb := u16_wrap hb
  generalize hK : a % (s.wicks.length : Int) = k at m0 m1 m2
  obtain ⟨w, g⟩ := good_of h0 hs m1 m2
  simp (config := { maxSteps := 400000 }) only [h1, wa, m0, m3, go_sem, ↓reduceIte, reduceCtorEq, Nat.reduceEqDiff, Nat.reduceAdd, Nat.reduceLT, Nat.reduceLeDiff, Nat.reduceSub, Int.reduceToNat, Int.reduceLE, Int.reduceLT, Int.reduceNeg, Int.reduceBEq, Int.reduceBNe, Nat.reduceMul, Int.reduceAdd, Int.reduceMul, Int.reduceSub, Int.reduceEq, Int.reduceNe]
  have d0 := Int.emod_nonneg b (show (2000 : Int) ≠ 0 by omega)
  have d1 := Int.emod_lt_of_pos b (show 0 < (2000 : Int) by omega)
  have e1 : IntKind.i64.wrap (1 + b.tmod 2000) = 1 + b % 2000 := by
    rw [Int.tmod_eq_emod_of_nonneg hb.1]; exact wrap_in (by omega) (by omega)
  generalize hD : 1 + b % 2000 = d at e1
  have dd : 1 ≤ d ∧ d ≤ 2000 := by omega
  have g' : Good s { c with diameter := d } x k w := g.candle rfl ⟨dd, hs.co.g, hs.co.c⟩
  have pS := g.pSizes
  have pF := g'.pFaults
  have eL : leastB w x { c with diameter := d } = leastB w x c := rfl
  have eM : mostB w x { c with diameter := d } = mostB w x c := rfl
  rw [eL, eM] at pF
  have hz := sz_iff hs.so (l := leastB w x c) (m := mostB w x c) dd
  have hf : (faultsOf s d (leastB w x c) (mostB w x c)).length < 1000000000 := by have := faults_len s k { c with diameter := d } w x; rwa [faultsSpec, if_pos g'.ak] at this
  generalize leastB w x c = l at *
  generalize mostB w x c = m at *
  generalize faultsOf s d l m = f at *
  have hz' : ((f.length : Int) == 0) = (!szBad s l m && (decide (szLo s m ≤ d) && decide (d ≤ szHi s l m))) := by
    rw [← hz, Bool.eq_iff_iff]; simp
  refine WF_pure pS rfl ?_
  unfold szSpan at *
  by_cases hc : (decide (szHi s l m < szLo s m) || szBad s l m) = true
  · have hz2 : ((f.length : Int) == 0) = false := by
      rw [hz']
      rw [Bool.or_eq_true, decide_eq_true_eq] at hc
      rw [Bool.eq_false_iff]
      simp only [ne_eq, Bool.and_eq_true, decide_eq_true_eq, Bool.not_eq_true', not_and]
      intro h1 h2 h3
      rcases hc with hc | hc
      · omega
      · rw [hc] at h1; cases h1
    rw [if_pos hc]
    simp (config := { maxSteps := 400000 }) only [e1, wb, go_sem, ↓reduceIte, reduceCtorEq, Nat.reduceEqDiff, Nat.reduceAdd, Nat.reduceLT, Nat.reduceLeDiff, Nat.reduceSub, Int.reduceToNat, Int.reduceLE, Int.reduceLT, Int.reduceNeg, Int.reduceBEq, Int.reduceBNe, Nat.reduceMul, Int.reduceAdd, Int.reduceMul, Int.reduceSub, Int.reduceEq, Int.reduceNe]
    refine WF_pure pF rfl ?_
    simp (config := { maxSteps := 400000 }) only [hz2, intsPV, go_sem, ↓reduceIte, reduceCtorEq, Nat.reduceEqDiff, Nat.reduceAdd, Nat.reduceLT, Nat.reduceLeDiff, Nat.reduceSub, Int.reduceToNat, Int.reduceLE, Int.reduceLT, Int.reduceNeg, Int.reduceBEq, Int.reduceBNe, Nat.reduceMul, Int.reduceAdd, Int.reduceMul, Int.reduceSub, Int.reduceEq, Int.reduceNe]
    refine WF_pure cAwake rfl ?_
    simp (config := { maxSteps := 400000 }) only [go_sem, ↓reduceIte, reduceCtorEq, Nat.reduceEqDiff, Nat.reduceAdd, Nat.reduceLT, Nat.reduceLeDiff, Nat.reduceSub, Int.reduceToNat, Int.reduceLE, Int.reduceLT, Int.reduceNeg, Int.reduceBEq, Int.reduceBNe, Nat.reduceMul, Int.reduceAdd, Int.reduceMul, Int.reduceSub, Int.reduceEq, Int.reduceNe]
  · have hc' := hc
    rw [Bool.or_eq_true, decide_eq_true_eq] at hc'
    have hb0 : szBad s l m = false := by
      cases h : szBad s l m
      · rfl
      · exact absurd (.inr h) hc'
    rw [hb0, Bool.not_false, Bool.true_and] at hz'
    rw [if_neg hc]
    generalize szLo s m = lo at *
    generalize szHi s l m = hi at *
    simp (config := { maxSteps := 400000 }) only [e1, wb, go_sem, ↓reduceIte, reduceCtorEq, Nat.reduceEqDiff, Nat.reduceAdd, Nat.reduceLT, Nat.reduceLeDiff, Nat.reduceSub, Int.reduceToNat, Int.reduceLE, Int.reduceLT, Int.reduceNeg, Int.reduceBEq, Int.reduceBNe, Nat.reduceMul, Int.reduceAdd, Int.reduceMul, Int.reduceSub, Int.reduceEq, Int.reduceNe]
    refine WF_pure pF rfl ?_
    simp (config := { maxSteps := 400000 }) only [hz', intsPV, go_sem, ↓reduceIte, reduceCtorEq, Nat.reduceEqDiff, Nat.reduceAdd, Nat.reduceLT, Nat.reduceLeDiff, Nat.reduceSub, Int.reduceToNat, Int.reduceLE, Int.reduceLT, Int.reduceNeg, Int.reduceBEq, Int.reduceBNe, Nat.reduceMul, Int.reduceAdd, Int.reduceMul, Int.reduceSub, Int.reduceEq, Int.reduceNe]
    cases h3 : decide (lo ≤ d)
    · rw [h3, Bool.false_and] at hz'
      simp (config := { maxSteps := 400000 }) only [h3, hz', go_sem, ↓reduceIte, reduceCtorEq, Nat.reduceEqDiff, Nat.reduceAdd, Nat.reduceLT, Nat.reduceLeDiff, Nat.reduceSub, Int.reduceToNat, Int.reduceLE, Int.reduceLT, Int.reduceNeg, Int.reduceBEq, Int.reduceBNe, Nat.reduceMul, Int.reduceAdd, Int.reduceMul, Int.reduceSub, Int.reduceEq, Int.reduceNe]
      refine WF_pure cAwake rfl ?_
      simp (config := { maxSteps := 400000 }) only [go_sem, ↓reduceIte, reduceCtorEq, Nat.reduceEqDiff, Nat.reduceAdd, Nat.reduceLT, Nat.reduceLeDiff, Nat.reduceSub, Int.reduceToNat, Int.reduceLE, Int.reduceLT, Int.reduceNeg, Int.reduceBEq, Int.reduceBNe, Nat.reduceMul, Int.reduceAdd, Int.reduceMul, Int.reduceSub, Int.reduceEq, Int.reduceNe]
    · rw [h3, Bool.true_and] at hz'
      simp (config := { maxSteps := 400000 }) only [h3, hz', beq_self_eq_true, go_sem, ↓reduceIte, reduceCtorEq, Nat.reduceEqDiff, Nat.reduceAdd, Nat.reduceLT, Nat.reduceLeDiff, Nat.reduceSub, Int.reduceToNat, Int.reduceLE, Int.reduceLT, Int.reduceNeg, Int.reduceBEq, Int.reduceBNe, Nat.reduceMul, Int.reduceAdd, Int.reduceMul, Int.reduceSub, Int.reduceEq, Int.reduceNe]
      refine WF_pure cAwake rfl ?_
      simp (config := { maxSteps := 400000 }) only [go_sem, ↓reduceIte, reduceCtorEq, Nat.reduceEqDiff, Nat.reduceAdd, Nat.reduceLT, Nat.reduceLeDiff, Nat.reduceSub, Int.reduceToNat, Int.reduceLE, Int.reduceLT, Int.reduceNeg, Int.reduceBEq, Int.reduceBNe, Nat.reduceMul, Int.reduceAdd, Int.reduceMul, Int.reduceSub, Int.reduceEq, Int.reduceNe]
end Abs
end Go.Proofs.Ytdgmmijimclooaa
