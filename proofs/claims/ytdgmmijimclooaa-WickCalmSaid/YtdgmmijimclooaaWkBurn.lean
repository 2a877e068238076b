/-
  CONTRACTS: how a candle burns in a truth; the ends.
-/
import Derived.Test.YtdgmmijimclooaaWkRun
namespace Go.Proofs.Ytdgmmijimclooaa
namespace Abs
set_option linter.unusedSimpArgs false
set_option maxRecDepth 4000

/-- a checked shop with a candle and one of its wicks -/
structure Site (s : Shop) (c : Candle) (x : Wax) : Prop where
  so : ShopOk s
  co : CandleOk c
  c0 : 0 ≤ c.wax
  c1 : c.wax < (s.waxes.length : Int)
  hx : s.waxes[c.wax.toNat]? = some x
  xo : WaxOk x
structure SiteK (s : Shop) (k : Int) (w : Wick) : Prop where
  k0 : 0 ≤ k
  k1 : k < (s.wicks.length : Int)
  hw : s.wicks[k.toNat]? = some w
  wo : WickOk w
theorem at_of {α : Type} {l : List α} {k : Int} (h0 : 0 ≤ k) (h1 : k < (l.length : Int)) : ∃ w, l[k.toNat]? = some w := ⟨_, List.getElem?_eq_getElem (by omega)⟩
theorem siteC_of {s : Shop} {ks : List Int} {c : Candle} (h : askErr s ks c = 0) : ∃ x, Site s c x := by
  obtain ⟨h1, h2, _⟩ := ask_ok h
  obtain ⟨co, c0, c1⟩ := candleOk_of h2
  obtain ⟨x, hx⟩ := at_of c0 c1
  have so := shopOk_of h1
  exact ⟨x, so, co, c0, c1, hx, so.x x (List.mem_of_getElem? hx)⟩
theorem siteK_of {s : Shop} (so : ShopOk s) {k : Int} (h0 : 0 ≤ k) (h1 : k < (s.wicks.length : Int)) : ∃ w, SiteK s k w := by
  obtain ⟨w, hw⟩ := at_of h0 h1
  exact ⟨w, h0, h1, hw, so.w w (List.mem_of_getElem? hw)⟩
theorem site_of {s : Shop} {k : Int} {c : Candle} (h : askErr s [k] c = 0) : ∃ w x, Site s c x ∧ SiteK s k w := by
  obtain ⟨x, hs⟩ := siteC_of h
  obtain ⟨_, _, h3⟩ := ask_ok h
  obtain ⟨h4, h5⟩ := h3 k (by simp)
  obtain ⟨w, hw⟩ := siteK_of hs.so h4 h5
  exact ⟨w, x, hs, hw⟩

/-- a truth within bounds -/
structure TOk (t : Truth) : Prop where
  p : 0 ≤ t.pull ∧ t.pull ≤ 1000
  f : 0 ≤ t.flow ∧ t.flow ≤ 300
  r : 0 ≤ t.rise ∧ t.rise ≤ 1000
  s : 0 ≤ t.spread ∧ t.spread ≤ 2000
  d : -90 ≤ t.draught ∧ t.draught ≤ 90
  c : 0 ≤ t.cold ∧ t.cold ≤ 300
def drawnOf (t : Truth) : Int := t.pull * t.flow * (100 + t.draught)
def burnOf (chill : Int) (t : Truth) : Burn := ⟨drawnOf t * 100, drawnOf t * t.rise, drawnOf t * t.spread - t.cold * chill * 100000⟩
theorem TOk.b {t : Truth} (h : TOk t) : (0 ≤ t.pull * t.flow ∧ t.pull * t.flow ≤ 1000 * 300) ∧ (0 ≤ drawnOf t ∧ drawnOf t ≤ 1000 * 300 * 190) ∧ (0 ≤ drawnOf t * t.rise ∧ drawnOf t * t.rise ≤ 1000 * 300 * 190 * 1000) ∧
    (0 ≤ drawnOf t * t.spread ∧ drawnOf t * t.spread ≤ 1000 * 300 * 190 * 2000) := by
  have h1 := mul_bd h.p.1 h.p.2 h.f.1 h.f.2
  have h2 := mul_bd h1.1 h1.2 (b := 100 + t.draught) (B := 190) (by have := h.d; omega) (by have := h.d; omega)
  exact ⟨h1, h2, mul_bd h2.1 h2.2 h.r.1 h.r.2, mul_bd h2.1 h2.2 h.s.1 h.s.2⟩

def prod4 (a b c d : Int) : Int := IntKind.i64.wrap (IntKind.i64.wrap (IntKind.i64.wrap (IntKind.i64.wrap (1 * a) * b) * c) * d)
theorem cProduct (a b c d : Int) : PCall Try.prog 76 [.agg [.int .i64 a, .int .i64 b, .int .i64 c, .int .i64 d]] (.int .i64 (prod4 a b c d)) := by
  refine pcall_of_wp draws (fn := Try.f76) (n := 15) (rs := [.tmp 2]) (by kernel_rfl) rfl rfl rfl ok76 (Nat.le_of_ble_eq_true rfl) ?_
  simp (config := { maxSteps := 400000 }) only [go_sem, ↓reduceIte, reduceCtorEq, Nat.reduceEqDiff, Nat.reduceAdd, Nat.reduceLT, Nat.reduceLeDiff, Nat.reduceSub, Int.reduceToNat, Int.reduceLE, Int.reduceLT, Int.reduceNeg, Int.reduceBEq, Int.reduceBNe, Nat.reduceMul, Int.reduceAdd, Int.reduceMul, Int.reduceSub, Int.reduceEq, Int.reduceNe]
  refine W_unroll ?_
  simp (config := { maxSteps := 400000 }) only [go_sem, ↓reduceIte, reduceCtorEq, Nat.reduceEqDiff, Nat.reduceAdd, Nat.reduceLT, Nat.reduceLeDiff, Nat.reduceSub, Int.reduceToNat, Int.reduceLE, Int.reduceLT, Int.reduceNeg, Int.reduceBEq, Int.reduceBNe, Nat.reduceMul, Int.reduceAdd, Int.reduceMul, Int.reduceSub, Int.reduceEq, Int.reduceNe]
  refine W_unroll ?_
  simp (config := { maxSteps := 400000 }) only [go_sem, ↓reduceIte, reduceCtorEq, Nat.reduceEqDiff, Nat.reduceAdd, Nat.reduceLT, Nat.reduceLeDiff, Nat.reduceSub, Int.reduceToNat, Int.reduceLE, Int.reduceLT, Int.reduceNeg, Int.reduceBEq, Int.reduceBNe, Nat.reduceMul, Int.reduceAdd, Int.reduceMul, Int.reduceSub, Int.reduceEq, Int.reduceNe]
  refine W_unroll ?_
  simp (config := { maxSteps := 400000 }) only [go_sem, ↓reduceIte, reduceCtorEq, Nat.reduceEqDiff, Nat.reduceAdd, Nat.reduceLT, Nat.reduceLeDiff, Nat.reduceSub, Int.reduceToNat, Int.reduceLE, Int.reduceLT, Int.reduceNeg, Int.reduceBEq, Int.reduceBNe, Nat.reduceMul, Int.reduceAdd, Int.reduceMul, Int.reduceSub, Int.reduceEq, Int.reduceNe]
  refine W_unroll ?_
  simp (config := { maxSteps := 400000 }) only [go_sem, ↓reduceIte, reduceCtorEq, Nat.reduceEqDiff, Nat.reduceAdd, Nat.reduceLT, Nat.reduceLeDiff, Nat.reduceSub, Int.reduceToNat, Int.reduceLE, Int.reduceLT, Int.reduceNeg, Int.reduceBEq, Int.reduceBNe, Nat.reduceMul, Int.reduceAdd, Int.reduceMul, Int.reduceSub, Int.reduceEq, Int.reduceNe]
  refine W_unroll ?_
  simp (config := { maxSteps := 400000 }) only [go_sem, ↓reduceIte, reduceCtorEq, Nat.reduceEqDiff, Nat.reduceAdd, Nat.reduceLT, Nat.reduceLeDiff, Nat.reduceSub, Int.reduceToNat, Int.reduceLE, Int.reduceLT, Int.reduceNeg, Int.reduceBEq, Int.reduceBNe, Nat.reduceMul, Int.reduceAdd, Int.reduceMul, Int.reduceSub, Int.reduceEq, Int.reduceNe]
  rfl
theorem cBurn (s : Shop) (c : Candle) (x : Wax) (t : Truth) (h : TOk t) (hc : 0 ≤ x.chill ∧ x.chill ≤ 50) : PCall Try.prog 56 [openPV s c x, t.pv] (burnOf x.chill t).pv := by
  obtain ⟨b1, b2, b3, b4⟩ := h.b
  have w1 : IntKind.i64.wrap (100 + t.draught) = 100 + t.draught := wrap_in (by have := h.d; omega) (by have := h.d; omega)
  have w2 : IntKind.i64.wrap (1 * t.pull) = t.pull := by rw [Int.one_mul]; exact wrap_in (by have := h.p; omega) (by have := h.p; omega)
  have w3 : IntKind.i64.wrap (t.pull * t.flow) = t.pull * t.flow := wrap_in (by omega) (by omega)
  have w4 : IntKind.i64.wrap (t.pull * t.flow * (100 + t.draught)) = drawnOf t := wrap_in (by unfold drawnOf at b2; omega) (by unfold drawnOf at b2; omega)
  have p0 : prod4 t.pull t.flow (100 + t.draught) 100 = drawnOf t * 100 := by unfold prod4; rw [w2, w3, w4]; exact wrap_in (by omega) (by omega)
  have p1 : prod4 t.pull t.flow (100 + t.draught) t.rise = drawnOf t * t.rise := by unfold prod4; rw [w2, w3, w4]; exact wrap_in (by omega) (by omega)
  have p2 : prod4 t.pull t.flow (100 + t.draught) t.spread = drawnOf t * t.spread := by unfold prod4; rw [w2, w3, w4]; exact wrap_in (by omega) (by omega)
  have bc := mul_bd h.c.1 h.c.2 hc.1 hc.2
  have q1 : IntKind.i64.wrap (t.cold * x.chill) = t.cold * x.chill := wrap_in (by omega) (by omega)
  have q2 : IntKind.i64.wrap (t.cold * x.chill * 1000000) = t.cold * x.chill * 1000000 := wrap_in (by omega) (by omega)
  have q3 : IntKind.i64.wrap ((t.cold * x.chill * 1000000).tdiv 10) = t.cold * x.chill * 100000 := by
    have : (t.cold * x.chill * 1000000).tdiv 10 = t.cold * x.chill * 100000 := by
      rw [show t.cold * x.chill * 1000000 = (t.cold * x.chill * 100000) * 10 by omega, Int.mul_tdiv_cancel _ (by decide)]
    rw [this]; exact wrap_in (by omega) (by omega)
  have q4 : IntKind.i64.wrap (drawnOf t * t.spread - t.cold * x.chill * 100000) = drawnOf t * t.spread - t.cold * x.chill * 100000 := wrap_in (by omega) (by omega)
  refine pcall_of_wp draws (fn := Try.f56) (n := 59) (rs := [.cell 4 40]) (by kernel_rfl) rfl rfl rfl ok56 (Nat.le_of_ble_eq_true rfl) ?_
  simp (config := { maxSteps := 400000 }) only [go_sem, ↓reduceIte, reduceCtorEq, Nat.reduceEqDiff, Nat.reduceAdd, Nat.reduceLT, Nat.reduceLeDiff, Nat.reduceSub, Int.reduceToNat, Int.reduceLE, Int.reduceLT, Int.reduceNeg, Int.reduceBEq, Int.reduceBNe, Nat.reduceMul, Int.reduceAdd, Int.reduceMul, Int.reduceSub, Int.reduceEq, Int.reduceNe]
  refine W_unroll ?_
  simp (config := { maxSteps := 400000 }) only [w1, go_sem, ↓reduceIte, reduceCtorEq, Nat.reduceEqDiff, Nat.reduceAdd, Nat.reduceLT, Nat.reduceLeDiff, Nat.reduceSub, Int.reduceToNat, Int.reduceLE, Int.reduceLT, Int.reduceNeg, Int.reduceBEq, Int.reduceBNe, Nat.reduceMul, Int.reduceAdd, Int.reduceMul, Int.reduceSub, Int.reduceEq, Int.reduceNe]
  refine WF_pure (cProduct _ _ _ _) rfl ?_
  simp (config := { maxSteps := 400000 }) only [p0, go_sem, ↓reduceIte, reduceCtorEq, Nat.reduceEqDiff, Nat.reduceAdd, Nat.reduceLT, Nat.reduceLeDiff, Nat.reduceSub, Int.reduceToNat, Int.reduceLE, Int.reduceLT, Int.reduceNeg, Int.reduceBEq, Int.reduceBNe, Nat.reduceMul, Int.reduceAdd, Int.reduceMul, Int.reduceSub, Int.reduceEq, Int.reduceNe]
  refine W_unroll ?_
  simp (config := { maxSteps := 400000 }) only [w1, go_sem, ↓reduceIte, reduceCtorEq, Nat.reduceEqDiff, Nat.reduceAdd, Nat.reduceLT, Nat.reduceLeDiff, Nat.reduceSub, Int.reduceToNat, Int.reduceLE, Int.reduceLT, Int.reduceNeg, Int.reduceBEq, Int.reduceBNe, Nat.reduceMul, Int.reduceAdd, Int.reduceMul, Int.reduceSub, Int.reduceEq, Int.reduceNe]
  refine WF_pure (cProduct _ _ _ _) rfl ?_
  simp (config := { maxSteps := 400000 }) only [p1, go_sem, ↓reduceIte, reduceCtorEq, Nat.reduceEqDiff, Nat.reduceAdd, Nat.reduceLT, Nat.reduceLeDiff, Nat.reduceSub, Int.reduceToNat, Int.reduceLE, Int.reduceLT, Int.reduceNeg, Int.reduceBEq, Int.reduceBNe, Nat.reduceMul, Int.reduceAdd, Int.reduceMul, Int.reduceSub, Int.reduceEq, Int.reduceNe]
  refine W_unroll ?_
  simp (config := { maxSteps := 400000 }) only [w1, go_sem, ↓reduceIte, reduceCtorEq, Nat.reduceEqDiff, Nat.reduceAdd, Nat.reduceLT, Nat.reduceLeDiff, Nat.reduceSub, Int.reduceToNat, Int.reduceLE, Int.reduceLT, Int.reduceNeg, Int.reduceBEq, Int.reduceBNe, Nat.reduceMul, Int.reduceAdd, Int.reduceMul, Int.reduceSub, Int.reduceEq, Int.reduceNe]
  refine WDQ_pure (cProduct _ _ _ _) rfl ?_
  simp (config := { maxSteps := 400000 }) only [p2, q1, q2, q3, q4, go_sem, ↓reduceIte, reduceCtorEq, Nat.reduceEqDiff, Nat.reduceAdd, Nat.reduceLT, Nat.reduceLeDiff, Nat.reduceSub, Int.reduceToNat, Int.reduceLE, Int.reduceLT, Int.reduceNeg, Int.reduceBEq, Int.reduceBNe, Nat.reduceMul, Int.reduceAdd, Int.reduceMul, Int.reduceSub, Int.reduceEq, Int.reduceNe]
  refine W_unroll ?_
  simp (config := { maxSteps := 400000 }) only [burnOf, go_sem, ↓reduceIte, reduceCtorEq, Nat.reduceEqDiff, Nat.reduceAdd, Nat.reduceLT, Nat.reduceLeDiff, Nat.reduceSub, Int.reduceToNat, Int.reduceLE, Int.reduceLT, Int.reduceNeg, Int.reduceBEq, Int.reduceBNe, Nat.reduceMul, Int.reduceAdd, Int.reduceMul, Int.reduceSub, Int.reduceEq, Int.reduceNe]

theorem cBurns (s : Shop) (c : Candle) (x : Wax) (t : Truth) (hs : Site s c x) (h : TOk t) : PCall Try.prog 59 [s.pv, c.pv, t.pv] (burnOf x.chill t).pv := by
  obtain ⟨b1, b2, b3, b4⟩ := h.b
  have hc := hs.xo.c
  have w1 : IntKind.i64.wrap (100 + t.draught) = 100 + t.draught := wrap_in (by have := h.d; omega) (by have := h.d; omega)
  have w3 : IntKind.i64.wrap (t.pull * t.flow) = t.pull * t.flow := wrap_in (by omega) (by omega)
  have w4 : IntKind.i64.wrap (t.pull * t.flow * (100 + t.draught)) = drawnOf t := wrap_in (by unfold drawnOf at b2; omega) (by unfold drawnOf at b2; omega)
  have p0 : IntKind.i64.wrap (drawnOf t * 100) = drawnOf t * 100 := wrap_in (by omega) (by omega)
  have p1 : IntKind.i64.wrap (drawnOf t * t.rise) = drawnOf t * t.rise := wrap_in (by omega) (by omega)
  have p2 : IntKind.i64.wrap (drawnOf t * t.spread) = drawnOf t * t.spread := wrap_in (by omega) (by omega)
  have bc := mul_bd h.c.1 h.c.2 hc.1 hc.2
  have q1 : IntKind.i64.wrap (t.cold * x.chill) = t.cold * x.chill := wrap_in (by omega) (by omega)
  have q2 : IntKind.i64.wrap (t.cold * x.chill * 100000) = t.cold * x.chill * 100000 := wrap_in (by omega) (by omega)
  have q4 : IntKind.i64.wrap (drawnOf t * t.spread - t.cold * x.chill * 100000) = drawnOf t * t.spread - t.cold * x.chill * 100000 := wrap_in (by omega) (by omega)
  have c0 := hs.c0
  have c1 := hs.c1
  have hx := hs.hx
  refine pcall_of_wp draws (fn := Try.f59) (n := 40) (rs := [.cell 6 40]) (by kernel_rfl) rfl rfl rfl ok59 (Nat.le_of_ble_eq_true rfl) ?_
  simp (config := { maxSteps := 400000 }) only [w1, w3, w4, p0, p1, p2, q1, q2, q4, c0, c1, hx, burnOf, go_sem, ↓reduceIte, reduceCtorEq, Nat.reduceEqDiff, Nat.reduceAdd, Nat.reduceLT, Nat.reduceLeDiff, Nat.reduceSub, Int.reduceToNat, Int.reduceLE, Int.reduceLT, Int.reduceNeg, Int.reduceBEq, Int.reduceBNe, Nat.reduceMul, Int.reduceAdd, Int.reduceMul, Int.reduceSub, Int.reduceEq, Int.reduceNe]

def leastT (w : Wick) (x : Wax) (c : Candle) : Truth := ⟨w.pull.lo, x.flow.lo, x.rise.lo, x.spread.lo, -c.draught, c.cold.hi⟩
def mostT (w : Wick) (x : Wax) (c : Candle) : Truth := ⟨w.pull.hi, x.flow.hi, x.rise.hi, x.spread.hi, c.draught, c.cold.lo⟩
theorem leastOk {w : Wick} {x : Wax} {c : Candle} (hw : WickOk w) (hx : WaxOk x) (hc : CandleOk c) : TOk (leastT w x c) := by
  have := hw.p; have := hx.f; have := hx.r; have := hx.s; have := hc.g; have := hc.c
  constructor <;> (simp only [leastT]; omega)
theorem mostOk {w : Wick} {x : Wax} {c : Candle} (hw : WickOk w) (hx : WaxOk x) (hc : CandleOk c) : TOk (mostT w x c) := by
  have := hw.p; have := hx.f; have := hx.r; have := hx.s; have := hc.g; have := hc.c
  constructor <;> (simp only [mostT]; omega)

theorem cTruths (s : Shop) (c : Candle) (x : Wax) (k : Int) (w : Wick) (hs : Site s c x) (hk : SiteK s k w) : PCall Try.prog 55 [openPV s c x, .int .i64 k] (.tuple [(leastT w x c).pv, (mostT w x c).pv]) := by
  have k0 := hk.k0
  have k1 := hk.k1
  have hw := hk.hw
  have hn : IntKind.i64.wrap (-c.draught) = -c.draught := wrap_in (by have := hs.co.g; omega) (by have := hs.co.g; omega)
  refine pcall_of_wp draws (fn := Try.f55) (n := 68) (rs := [.cell 4 36, .cell 5 36]) (by kernel_rfl) rfl rfl rfl ok55 (Nat.le_of_ble_eq_true rfl) ?_
  simp (config := { maxSteps := 400000 }) only [H55, W_drawH, k0, k1, hw, hn, leastT, mostT, go_sem, ↓reduceIte, reduceCtorEq, Nat.reduceEqDiff, Nat.reduceAdd, Nat.reduceLT, Nat.reduceLeDiff, Nat.reduceSub, Int.reduceToNat, Int.reduceLE, Int.reduceLT, Int.reduceNeg, Int.reduceBEq, Int.reduceBNe, Nat.reduceMul, Int.reduceAdd, Int.reduceMul, Int.reduceSub, Int.reduceEq, Int.reduceNe]
theorem cRefEnds (s : Shop) (c : Candle) (x : Wax) (k : Int) (w : Wick) (hs : Site s c x) (hk : SiteK s k w) : PCall Try.prog 38 [s.pv, .int .i64 k, c.pv] (.tuple [(leastT w x c).pv, (mostT w x c).pv]) := by
  have k0 := hk.k0
  have k1 := hk.k1
  have hw := hk.hw
  have c0 := hs.c0
  have c1 := hs.c1
  have hx := hs.hx
  have hn : IntKind.i64.wrap (-c.draught) = -c.draught := wrap_in (by have := hs.co.g; omega) (by have := hs.co.g; omega)
  refine pcall_of_wp draws (fn := Try.f38) (n := 58) (rs := [.cell 6 36, .cell 7 36]) (by kernel_rfl) rfl rfl rfl ok38 (Nat.le_of_ble_eq_true rfl) ?_
  simp (config := { maxSteps := 400000 }) only [H38, W_drawH, k0, k1, hw, c0, c1, hx, hn, leastT, mostT, go_sem, ↓reduceIte, reduceCtorEq, Nat.reduceEqDiff, Nat.reduceAdd, Nat.reduceLT, Nat.reduceLeDiff, Nat.reduceSub, Int.reduceToNat, Int.reduceLE, Int.reduceLT, Int.reduceNeg, Int.reduceBEq, Int.reduceBNe, Nat.reduceMul, Int.reduceAdd, Int.reduceMul, Int.reduceSub, Int.reduceEq, Int.reduceNe]

def leastB (w : Wick) (x : Wax) (c : Candle) : Burn := burnOf x.chill (leastT w x c)
def mostB (w : Wick) (x : Wax) (c : Candle) : Burn := burnOf x.chill (mostT w x c)
theorem cEnds (s : Shop) (c : Candle) (x : Wax) (k : Int) (w : Wick) (hs : Site s c x) (hk : SiteK s k w) : PCall Try.prog 60 [openPV s c x, .int .i64 k] (.tuple [(leastB w x c).pv, (mostB w x c).pv]) := by
  refine pcall_of_wp draws (fn := Try.f60) (n := 26) (rs := [.cell 4 40, .cell 5 40]) (by kernel_rfl) rfl rfl rfl ok60 (Nat.le_of_ble_eq_true rfl) ?_
  simp (config := { maxSteps := 400000 }) only [go_sem, ↓reduceIte, reduceCtorEq, Nat.reduceEqDiff, Nat.reduceAdd, Nat.reduceLT, Nat.reduceLeDiff, Nat.reduceSub, Int.reduceToNat, Int.reduceLE, Int.reduceLT, Int.reduceNeg, Int.reduceBEq, Int.reduceBNe, Nat.reduceMul, Int.reduceAdd, Int.reduceMul, Int.reduceSub, Int.reduceEq, Int.reduceNe]
  refine WF_pure (cTruths s c x k w hs hk) rfl ?_
  simp (config := { maxSteps := 400000 }) only [go_sem, ↓reduceIte, reduceCtorEq, Nat.reduceEqDiff, Nat.reduceAdd, Nat.reduceLT, Nat.reduceLeDiff, Nat.reduceSub, Int.reduceToNat, Int.reduceLE, Int.reduceLT, Int.reduceNeg, Int.reduceBEq, Int.reduceBNe, Nat.reduceMul, Int.reduceAdd, Int.reduceMul, Int.reduceSub, Int.reduceEq, Int.reduceNe]
  refine WF_pure (cBurn s c x (leastT w x c) (leastOk hk.wo hs.xo hs.co) hs.xo.c) rfl ?_
  simp (config := { maxSteps := 400000 }) only [go_sem, ↓reduceIte, reduceCtorEq, Nat.reduceEqDiff, Nat.reduceAdd, Nat.reduceLT, Nat.reduceLeDiff, Nat.reduceSub, Int.reduceToNat, Int.reduceLE, Int.reduceLT, Int.reduceNeg, Int.reduceBEq, Int.reduceBNe, Nat.reduceMul, Int.reduceAdd, Int.reduceMul, Int.reduceSub, Int.reduceEq, Int.reduceNe]
  refine WB_split (fun hb => ?_) (fun hb => ?_)
  · have he : leastT w x c = mostT w x c := by
      simp only [Bool.and_eq_true, beq_iff_eq] at hb
      simp only [leastT, mostT] at hb ⊢
      simp [hb]
    simp (config := { maxSteps := 400000 }) only [leastB, mostB, he, go_sem, ↓reduceIte, reduceCtorEq, Nat.reduceEqDiff, Nat.reduceAdd, Nat.reduceLT, Nat.reduceLeDiff, Nat.reduceSub, Int.reduceToNat, Int.reduceLE, Int.reduceLT, Int.reduceNeg, Int.reduceBEq, Int.reduceBNe, Nat.reduceMul, Int.reduceAdd, Int.reduceMul, Int.reduceSub, Int.reduceEq, Int.reduceNe]
  · simp (config := { maxSteps := 400000 }) only [go_sem, ↓reduceIte, reduceCtorEq, Nat.reduceEqDiff, Nat.reduceAdd, Nat.reduceLT, Nat.reduceLeDiff, Nat.reduceSub, Int.reduceToNat, Int.reduceLE, Int.reduceLT, Int.reduceNeg, Int.reduceBEq, Int.reduceBNe, Nat.reduceMul, Int.reduceAdd, Int.reduceMul, Int.reduceSub, Int.reduceEq, Int.reduceNe]
    refine WDQ_pure (cBurn s c x (mostT w x c) (mostOk hk.wo hs.xo hs.co) hs.xo.c) rfl ?_
    simp (config := { maxSteps := 400000 }) only [leastB, mostB, go_sem, ↓reduceIte, reduceCtorEq, Nat.reduceEqDiff, Nat.reduceAdd, Nat.reduceLT, Nat.reduceLeDiff, Nat.reduceSub, Int.reduceToNat, Int.reduceLE, Int.reduceLT, Int.reduceNeg, Int.reduceBEq, Int.reduceBNe, Nat.reduceMul, Int.reduceAdd, Int.reduceMul, Int.reduceSub, Int.reduceEq, Int.reduceNe]

end Abs
end Go.Proofs.Ytdgmmijimclooaa
