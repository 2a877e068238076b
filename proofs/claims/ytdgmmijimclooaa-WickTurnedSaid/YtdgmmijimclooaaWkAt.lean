/-
  CONTRACTS: At, Burn, Minutes, in the program and in the reference.
-/
import Derived.Test.YtdgmmijimclooaaWkBurn
namespace Go.Proofs.Ytdgmmijimclooaa
namespace Abs
set_option linter.unusedSimpArgs false
set_option maxRecDepth 4000

def trueB (w : Wick) (x : Wax) (c : Candle) (t : Truth) : Bool :=
  gIn t.pull w.pull.lo w.pull.hi && (gIn t.flow x.flow.lo x.flow.hi && (gIn t.rise x.rise.lo x.rise.hi && (gIn t.spread x.spread.lo x.spread.hi && (gIn t.draught (-c.draught) c.draught && gIn t.cold c.cold.lo c.cold.hi))))
theorem tok_of {w : Wick} {x : Wax} {c : Candle} {t : Truth} (hw : WickOk w) (hx : WaxOk x) (hc : CandleOk c) (h : trueB w x c t = true) : TOk t := by
  simp only [trueB, Bool.and_eq_true, gIn_iff] at h
  have := hw.p; have := hx.f; have := hx.r; have := hx.s; have := hc.g; have := hc.c
  constructor <;> omega
def zeroB : Burn := ⟨0, 0, 0⟩
attribute [go_sem] zeroB

theorem cTrue (s : Shop) (c : Candle) (x : Wax) (k : Int) (w : Wick) (t : Truth) (hs : Site s c x) (hk : SiteK s k w) : PCall Try.prog 58 [s.pv, .int .i64 k, c.pv, t.pv] (.bool (trueB w x c t)) := by
  have k0 := hk.k0
  have k1 := hk.k1
  have hw := hk.hw
  have c0 := hs.c0
  have c1 := hs.c1
  have hx := hs.hx
  have hn : IntKind.i64.wrap (-c.draught) = -c.draught := wrap_in (by have := hs.co.g; omega) (by have := hs.co.g; omega)
  refine pcall_of_wp draws (fn := Try.f58) (n := 63) (rs := [.tmp 8]) (by kernel_rfl) rfl rfl rfl ok58 (Nat.le_of_ble_eq_true rfl) ?_
  simp (config := { maxSteps := 400000 }) only [k0, k1, hw, c0, c1, hx, go_sem, ↓reduceIte, reduceCtorEq, Nat.reduceEqDiff, Nat.reduceAdd, Nat.reduceLT, Nat.reduceLeDiff, Nat.reduceSub, Int.reduceToNat, Int.reduceLE, Int.reduceLT, Int.reduceNeg, Int.reduceBEq, Int.reduceBNe, Nat.reduceMul, Int.reduceAdd, Int.reduceMul, Int.reduceSub, Int.reduceEq, Int.reduceNe]
  refine WDQ_pure (cAt _ _ _) rfl ?_
  simp (config := { maxSteps := 400000 }) only [go_sem, ↓reduceIte, reduceCtorEq, Nat.reduceEqDiff, Nat.reduceAdd, Nat.reduceLT, Nat.reduceLeDiff, Nat.reduceSub, Int.reduceToNat, Int.reduceLE, Int.reduceLT, Int.reduceNeg, Int.reduceBEq, Int.reduceBNe, Nat.reduceMul, Int.reduceAdd, Int.reduceMul, Int.reduceSub, Int.reduceEq, Int.reduceNe]
  cases h1 : gIn t.pull w.pull.lo w.pull.hi
  · simp (config := { maxSteps := 400000 }) only [trueB, h1, go_sem, ↓reduceIte, reduceCtorEq, Nat.reduceEqDiff, Nat.reduceAdd, Nat.reduceLT, Nat.reduceLeDiff, Nat.reduceSub, Int.reduceToNat, Int.reduceLE, Int.reduceLT, Int.reduceNeg, Int.reduceBEq, Int.reduceBNe, Nat.reduceMul, Int.reduceAdd, Int.reduceMul, Int.reduceSub, Int.reduceEq, Int.reduceNe]
  simp (config := { maxSteps := 400000 }) only [go_sem, ↓reduceIte, reduceCtorEq, Nat.reduceEqDiff, Nat.reduceAdd, Nat.reduceLT, Nat.reduceLeDiff, Nat.reduceSub, Int.reduceToNat, Int.reduceLE, Int.reduceLT, Int.reduceNeg, Int.reduceBEq, Int.reduceBNe, Nat.reduceMul, Int.reduceAdd, Int.reduceMul, Int.reduceSub, Int.reduceEq, Int.reduceNe]
  refine WDQ_pure (cAt _ _ _) rfl ?_
  simp (config := { maxSteps := 400000 }) only [go_sem, ↓reduceIte, reduceCtorEq, Nat.reduceEqDiff, Nat.reduceAdd, Nat.reduceLT, Nat.reduceLeDiff, Nat.reduceSub, Int.reduceToNat, Int.reduceLE, Int.reduceLT, Int.reduceNeg, Int.reduceBEq, Int.reduceBNe, Nat.reduceMul, Int.reduceAdd, Int.reduceMul, Int.reduceSub, Int.reduceEq, Int.reduceNe]
  cases h2 : gIn t.flow x.flow.lo x.flow.hi
  · simp (config := { maxSteps := 400000 }) only [trueB, h1, h2, go_sem, ↓reduceIte, reduceCtorEq, Nat.reduceEqDiff, Nat.reduceAdd, Nat.reduceLT, Nat.reduceLeDiff, Nat.reduceSub, Int.reduceToNat, Int.reduceLE, Int.reduceLT, Int.reduceNeg, Int.reduceBEq, Int.reduceBNe, Nat.reduceMul, Int.reduceAdd, Int.reduceMul, Int.reduceSub, Int.reduceEq, Int.reduceNe]
  simp (config := { maxSteps := 400000 }) only [go_sem, ↓reduceIte, reduceCtorEq, Nat.reduceEqDiff, Nat.reduceAdd, Nat.reduceLT, Nat.reduceLeDiff, Nat.reduceSub, Int.reduceToNat, Int.reduceLE, Int.reduceLT, Int.reduceNeg, Int.reduceBEq, Int.reduceBNe, Nat.reduceMul, Int.reduceAdd, Int.reduceMul, Int.reduceSub, Int.reduceEq, Int.reduceNe]
  refine WDQ_pure (cAt _ _ _) rfl ?_
  simp (config := { maxSteps := 400000 }) only [go_sem, ↓reduceIte, reduceCtorEq, Nat.reduceEqDiff, Nat.reduceAdd, Nat.reduceLT, Nat.reduceLeDiff, Nat.reduceSub, Int.reduceToNat, Int.reduceLE, Int.reduceLT, Int.reduceNeg, Int.reduceBEq, Int.reduceBNe, Nat.reduceMul, Int.reduceAdd, Int.reduceMul, Int.reduceSub, Int.reduceEq, Int.reduceNe]
  cases h3 : gIn t.rise x.rise.lo x.rise.hi
  · simp (config := { maxSteps := 400000 }) only [trueB, h1, h2, h3, go_sem, ↓reduceIte, reduceCtorEq, Nat.reduceEqDiff, Nat.reduceAdd, Nat.reduceLT, Nat.reduceLeDiff, Nat.reduceSub, Int.reduceToNat, Int.reduceLE, Int.reduceLT, Int.reduceNeg, Int.reduceBEq, Int.reduceBNe, Nat.reduceMul, Int.reduceAdd, Int.reduceMul, Int.reduceSub, Int.reduceEq, Int.reduceNe]
  simp (config := { maxSteps := 400000 }) only [go_sem, ↓reduceIte, reduceCtorEq, Nat.reduceEqDiff, Nat.reduceAdd, Nat.reduceLT, Nat.reduceLeDiff, Nat.reduceSub, Int.reduceToNat, Int.reduceLE, Int.reduceLT, Int.reduceNeg, Int.reduceBEq, Int.reduceBNe, Nat.reduceMul, Int.reduceAdd, Int.reduceMul, Int.reduceSub, Int.reduceEq, Int.reduceNe]
  refine WDQ_pure (cAt _ _ _) rfl ?_
  simp (config := { maxSteps := 400000 }) only [go_sem, ↓reduceIte, reduceCtorEq, Nat.reduceEqDiff, Nat.reduceAdd, Nat.reduceLT, Nat.reduceLeDiff, Nat.reduceSub, Int.reduceToNat, Int.reduceLE, Int.reduceLT, Int.reduceNeg, Int.reduceBEq, Int.reduceBNe, Nat.reduceMul, Int.reduceAdd, Int.reduceMul, Int.reduceSub, Int.reduceEq, Int.reduceNe]
  cases h4 : gIn t.spread x.spread.lo x.spread.hi
  · simp (config := { maxSteps := 400000 }) only [trueB, h1, h2, h3, h4, go_sem, ↓reduceIte, reduceCtorEq, Nat.reduceEqDiff, Nat.reduceAdd, Nat.reduceLT, Nat.reduceLeDiff, Nat.reduceSub, Int.reduceToNat, Int.reduceLE, Int.reduceLT, Int.reduceNeg, Int.reduceBEq, Int.reduceBNe, Nat.reduceMul, Int.reduceAdd, Int.reduceMul, Int.reduceSub, Int.reduceEq, Int.reduceNe]
  simp (config := { maxSteps := 400000 }) only [hn, go_sem, ↓reduceIte, reduceCtorEq, Nat.reduceEqDiff, Nat.reduceAdd, Nat.reduceLT, Nat.reduceLeDiff, Nat.reduceSub, Int.reduceToNat, Int.reduceLE, Int.reduceLT, Int.reduceNeg, Int.reduceBEq, Int.reduceBNe, Nat.reduceMul, Int.reduceAdd, Int.reduceMul, Int.reduceSub, Int.reduceEq, Int.reduceNe]
  refine WDQ_pure (cIn1 _ _ _) rfl ?_
  simp (config := { maxSteps := 400000 }) only [go_sem, ↓reduceIte, reduceCtorEq, Nat.reduceEqDiff, Nat.reduceAdd, Nat.reduceLT, Nat.reduceLeDiff, Nat.reduceSub, Int.reduceToNat, Int.reduceLE, Int.reduceLT, Int.reduceNeg, Int.reduceBEq, Int.reduceBNe, Nat.reduceMul, Int.reduceAdd, Int.reduceMul, Int.reduceSub, Int.reduceEq, Int.reduceNe]
  cases h5 : gIn t.draught (-c.draught) c.draught
  · simp (config := { maxSteps := 400000 }) only [trueB, h1, h2, h3, h4, h5, go_sem, ↓reduceIte, reduceCtorEq, Nat.reduceEqDiff, Nat.reduceAdd, Nat.reduceLT, Nat.reduceLeDiff, Nat.reduceSub, Int.reduceToNat, Int.reduceLE, Int.reduceLT, Int.reduceNeg, Int.reduceBEq, Int.reduceBNe, Nat.reduceMul, Int.reduceAdd, Int.reduceMul, Int.reduceSub, Int.reduceEq, Int.reduceNe]
  simp (config := { maxSteps := 400000 }) only [go_sem, ↓reduceIte, reduceCtorEq, Nat.reduceEqDiff, Nat.reduceAdd, Nat.reduceLT, Nat.reduceLeDiff, Nat.reduceSub, Int.reduceToNat, Int.reduceLE, Int.reduceLT, Int.reduceNeg, Int.reduceBEq, Int.reduceBNe, Nat.reduceMul, Int.reduceAdd, Int.reduceMul, Int.reduceSub, Int.reduceEq, Int.reduceNe]
  refine WDQ_pure (cAt _ _ _) rfl ?_
  simp (config := { maxSteps := 400000 }) only [trueB, h1, h2, h3, h4, h5, go_sem, ↓reduceIte, reduceCtorEq, Nat.reduceEqDiff, Nat.reduceAdd, Nat.reduceLT, Nat.reduceLeDiff, Nat.reduceSub, Int.reduceToNat, Int.reduceLE, Int.reduceLT, Int.reduceNeg, Int.reduceBEq, Int.reduceBNe, Nat.reduceMul, Int.reduceAdd, Int.reduceMul, Int.reduceSub, Int.reduceEq, Int.reduceNe]

/-- At: how it burns, and the error -/
def atSpec (s : Shop) (k : Int) (c : Candle) (t : Truth) (w : Wick) (x : Wax) : Burn × Int :=
  if askErr s [k] c = 0 then (if trueB w x c t = true then (burnOf x.chill t, 0) else (zeroB, 7)) else (zeroB, askErr s [k] c)
theorem cWickAt (s : Shop) (k : Int) (c : Candle) (t : Truth) (w : Wick) (x : Wax) (h : askErr s [k] c = 0 → Site s c x ∧ SiteK s k w) :
    PCall Try.prog 17 [s.pv, .int .i64 k, c.pv, t.pv] (.tuple [(atSpec s k c t w x).1.pv, .int .i64 (atSpec s k c t w x).2]) := by
  refine pcall_of_wp draws (fn := Try.f17) (n := 94) (rs := [.cell 8 40, .tmp 9]) (by kernel_rfl) rfl rfl rfl ok17 (Nat.le_of_ble_eq_true rfl) ?_
  simp (config := { maxSteps := 400000 }) only [go_sem, ↓reduceIte, reduceCtorEq, Nat.reduceEqDiff, Nat.reduceAdd, Nat.reduceLT, Nat.reduceLeDiff, Nat.reduceSub, Int.reduceToNat, Int.reduceLE, Int.reduceLT, Int.reduceNeg, Int.reduceBEq, Int.reduceBNe, Nat.reduceMul, Int.reduceAdd, Int.reduceMul, Int.reduceSub, Int.reduceEq, Int.reduceNe]
  refine WF_pure (cOpen s c [k] true _ rfl (by simp) x (fun h0 => (h h0).1.hx)) rfl ?_
  simp (config := { maxSteps := 400000 }) only [go_sem, ↓reduceIte, reduceCtorEq, Nat.reduceEqDiff, Nat.reduceAdd, Nat.reduceLT, Nat.reduceLeDiff, Nat.reduceSub, Int.reduceToNat, Int.reduceLE, Int.reduceLT, Int.reduceNeg, Int.reduceBEq, Int.reduceBNe, Nat.reduceMul, Int.reduceAdd, Int.reduceMul, Int.reduceSub, Int.reduceEq, Int.reduceNe]
  cases h0 : (askErr s [k] c != 0)
  rotate_left
  · have h0' : ¬ askErr s [k] c = 0 := by simpa using h0
    simp (config := { maxSteps := 400000 }) only [atSpec, if_neg h0', go_sem, ↓reduceIte, reduceCtorEq, Nat.reduceEqDiff, Nat.reduceAdd, Nat.reduceLT, Nat.reduceLeDiff, Nat.reduceSub, Int.reduceToNat, Int.reduceLE, Int.reduceLT, Int.reduceNeg, Int.reduceBEq, Int.reduceBNe, Nat.reduceMul, Int.reduceAdd, Int.reduceMul, Int.reduceSub, Int.reduceEq, Int.reduceNe]
  have h0' : askErr s [k] c = 0 := by simpa using h0
  obtain ⟨hs, hk⟩ := h h0'
  simp (config := { maxSteps := 400000 }) only [if_pos h0', go_sem, ↓reduceIte, reduceCtorEq, Nat.reduceEqDiff, Nat.reduceAdd, Nat.reduceLT, Nat.reduceLeDiff, Nat.reduceSub, Int.reduceToNat, Int.reduceLE, Int.reduceLT, Int.reduceNeg, Int.reduceBEq, Int.reduceBNe, Nat.reduceMul, Int.reduceAdd, Int.reduceMul, Int.reduceSub, Int.reduceEq, Int.reduceNe]
  refine WF_pure (cTruths s c x k w hs hk) rfl ?_
  simp (config := { maxSteps := 400000 }) only [leastT, mostT, go_sem, ↓reduceIte, reduceCtorEq, Nat.reduceEqDiff, Nat.reduceAdd, Nat.reduceLT, Nat.reduceLeDiff, Nat.reduceSub, Int.reduceToNat, Int.reduceLE, Int.reduceLT, Int.reduceNeg, Int.reduceBEq, Int.reduceBNe, Nat.reduceMul, Int.reduceAdd, Int.reduceMul, Int.reduceSub, Int.reduceEq, Int.reduceNe]
  refine WF_pure (cOut _ _ [_] true (by simp)) rfl ?_
  simp (config := { maxSteps := 400000 }) only [List.any_cons, List.any_nil, go_sem, ↓reduceIte, reduceCtorEq, Nat.reduceEqDiff, Nat.reduceAdd, Nat.reduceLT, Nat.reduceLeDiff, Nat.reduceSub, Int.reduceToNat, Int.reduceLE, Int.reduceLT, Int.reduceNeg, Int.reduceBEq, Int.reduceBNe, Nat.reduceMul, Int.reduceAdd, Int.reduceMul, Int.reduceSub, Int.reduceEq, Int.reduceNe]
  cases h1 : gIn t.pull w.pull.lo w.pull.hi
  · simp (config := { maxSteps := 400000 }) only [atSpec, if_pos h0', trueB, h1, go_sem, ↓reduceIte, reduceCtorEq, Nat.reduceEqDiff, Nat.reduceAdd, Nat.reduceLT, Nat.reduceLeDiff, Nat.reduceSub, Int.reduceToNat, Int.reduceLE, Int.reduceLT, Int.reduceNeg, Int.reduceBEq, Int.reduceBNe, Nat.reduceMul, Int.reduceAdd, Int.reduceMul, Int.reduceSub, Int.reduceEq, Int.reduceNe]
  simp (config := { maxSteps := 400000 }) only [go_sem, ↓reduceIte, reduceCtorEq, Nat.reduceEqDiff, Nat.reduceAdd, Nat.reduceLT, Nat.reduceLeDiff, Nat.reduceSub, Int.reduceToNat, Int.reduceLE, Int.reduceLT, Int.reduceNeg, Int.reduceBEq, Int.reduceBNe, Nat.reduceMul, Int.reduceAdd, Int.reduceMul, Int.reduceSub, Int.reduceEq, Int.reduceNe]
  refine WF_pure (cOut _ _ [_] true (by simp)) rfl ?_
  simp (config := { maxSteps := 400000 }) only [List.any_cons, List.any_nil, go_sem, ↓reduceIte, reduceCtorEq, Nat.reduceEqDiff, Nat.reduceAdd, Nat.reduceLT, Nat.reduceLeDiff, Nat.reduceSub, Int.reduceToNat, Int.reduceLE, Int.reduceLT, Int.reduceNeg, Int.reduceBEq, Int.reduceBNe, Nat.reduceMul, Int.reduceAdd, Int.reduceMul, Int.reduceSub, Int.reduceEq, Int.reduceNe]
  cases h2 : gIn t.flow x.flow.lo x.flow.hi
  · simp (config := { maxSteps := 400000 }) only [atSpec, if_pos h0', trueB, h1, h2, go_sem, ↓reduceIte, reduceCtorEq, Nat.reduceEqDiff, Nat.reduceAdd, Nat.reduceLT, Nat.reduceLeDiff, Nat.reduceSub, Int.reduceToNat, Int.reduceLE, Int.reduceLT, Int.reduceNeg, Int.reduceBEq, Int.reduceBNe, Nat.reduceMul, Int.reduceAdd, Int.reduceMul, Int.reduceSub, Int.reduceEq, Int.reduceNe]
  simp (config := { maxSteps := 400000 }) only [go_sem, ↓reduceIte, reduceCtorEq, Nat.reduceEqDiff, Nat.reduceAdd, Nat.reduceLT, Nat.reduceLeDiff, Nat.reduceSub, Int.reduceToNat, Int.reduceLE, Int.reduceLT, Int.reduceNeg, Int.reduceBEq, Int.reduceBNe, Nat.reduceMul, Int.reduceAdd, Int.reduceMul, Int.reduceSub, Int.reduceEq, Int.reduceNe]
  refine WF_pure (cOut _ _ [_] true (by simp)) rfl ?_
  simp (config := { maxSteps := 400000 }) only [List.any_cons, List.any_nil, go_sem, ↓reduceIte, reduceCtorEq, Nat.reduceEqDiff, Nat.reduceAdd, Nat.reduceLT, Nat.reduceLeDiff, Nat.reduceSub, Int.reduceToNat, Int.reduceLE, Int.reduceLT, Int.reduceNeg, Int.reduceBEq, Int.reduceBNe, Nat.reduceMul, Int.reduceAdd, Int.reduceMul, Int.reduceSub, Int.reduceEq, Int.reduceNe]
  cases h3 : gIn t.rise x.rise.lo x.rise.hi
  · simp (config := { maxSteps := 400000 }) only [atSpec, if_pos h0', trueB, h1, h2, h3, go_sem, ↓reduceIte, reduceCtorEq, Nat.reduceEqDiff, Nat.reduceAdd, Nat.reduceLT, Nat.reduceLeDiff, Nat.reduceSub, Int.reduceToNat, Int.reduceLE, Int.reduceLT, Int.reduceNeg, Int.reduceBEq, Int.reduceBNe, Nat.reduceMul, Int.reduceAdd, Int.reduceMul, Int.reduceSub, Int.reduceEq, Int.reduceNe]
  simp (config := { maxSteps := 400000 }) only [go_sem, ↓reduceIte, reduceCtorEq, Nat.reduceEqDiff, Nat.reduceAdd, Nat.reduceLT, Nat.reduceLeDiff, Nat.reduceSub, Int.reduceToNat, Int.reduceLE, Int.reduceLT, Int.reduceNeg, Int.reduceBEq, Int.reduceBNe, Nat.reduceMul, Int.reduceAdd, Int.reduceMul, Int.reduceSub, Int.reduceEq, Int.reduceNe]
  refine WF_pure (cOut _ _ [_] true (by simp)) rfl ?_
  simp (config := { maxSteps := 400000 }) only [List.any_cons, List.any_nil, go_sem, ↓reduceIte, reduceCtorEq, Nat.reduceEqDiff, Nat.reduceAdd, Nat.reduceLT, Nat.reduceLeDiff, Nat.reduceSub, Int.reduceToNat, Int.reduceLE, Int.reduceLT, Int.reduceNeg, Int.reduceBEq, Int.reduceBNe, Nat.reduceMul, Int.reduceAdd, Int.reduceMul, Int.reduceSub, Int.reduceEq, Int.reduceNe]
  cases h4 : gIn t.spread x.spread.lo x.spread.hi
  · simp (config := { maxSteps := 400000 }) only [atSpec, if_pos h0', trueB, h1, h2, h3, h4, go_sem, ↓reduceIte, reduceCtorEq, Nat.reduceEqDiff, Nat.reduceAdd, Nat.reduceLT, Nat.reduceLeDiff, Nat.reduceSub, Int.reduceToNat, Int.reduceLE, Int.reduceLT, Int.reduceNeg, Int.reduceBEq, Int.reduceBNe, Nat.reduceMul, Int.reduceAdd, Int.reduceMul, Int.reduceSub, Int.reduceEq, Int.reduceNe]
  simp (config := { maxSteps := 400000 }) only [go_sem, ↓reduceIte, reduceCtorEq, Nat.reduceEqDiff, Nat.reduceAdd, Nat.reduceLT, Nat.reduceLeDiff, Nat.reduceSub, Int.reduceToNat, Int.reduceLE, Int.reduceLT, Int.reduceNeg, Int.reduceBEq, Int.reduceBNe, Nat.reduceMul, Int.reduceAdd, Int.reduceMul, Int.reduceSub, Int.reduceEq, Int.reduceNe]
  refine WF_pure (cOut _ _ [_] true (by simp)) rfl ?_
  simp (config := { maxSteps := 400000 }) only [List.any_cons, List.any_nil, go_sem, ↓reduceIte, reduceCtorEq, Nat.reduceEqDiff, Nat.reduceAdd, Nat.reduceLT, Nat.reduceLeDiff, Nat.reduceSub, Int.reduceToNat, Int.reduceLE, Int.reduceLT, Int.reduceNeg, Int.reduceBEq, Int.reduceBNe, Nat.reduceMul, Int.reduceAdd, Int.reduceMul, Int.reduceSub, Int.reduceEq, Int.reduceNe]
  cases h5 : gIn t.draught (-c.draught) c.draught
  · simp (config := { maxSteps := 400000 }) only [atSpec, if_pos h0', trueB, h1, h2, h3, h4, h5, go_sem, ↓reduceIte, reduceCtorEq, Nat.reduceEqDiff, Nat.reduceAdd, Nat.reduceLT, Nat.reduceLeDiff, Nat.reduceSub, Int.reduceToNat, Int.reduceLE, Int.reduceLT, Int.reduceNeg, Int.reduceBEq, Int.reduceBNe, Nat.reduceMul, Int.reduceAdd, Int.reduceMul, Int.reduceSub, Int.reduceEq, Int.reduceNe]
  simp (config := { maxSteps := 400000 }) only [go_sem, ↓reduceIte, reduceCtorEq, Nat.reduceEqDiff, Nat.reduceAdd, Nat.reduceLT, Nat.reduceLeDiff, Nat.reduceSub, Int.reduceToNat, Int.reduceLE, Int.reduceLT, Int.reduceNeg, Int.reduceBEq, Int.reduceBNe, Nat.reduceMul, Int.reduceAdd, Int.reduceMul, Int.reduceSub, Int.reduceEq, Int.reduceNe]
  refine WF_pure (cOut _ _ [_] true (by simp)) rfl ?_
  simp (config := { maxSteps := 400000 }) only [List.any_cons, List.any_nil, go_sem, ↓reduceIte, reduceCtorEq, Nat.reduceEqDiff, Nat.reduceAdd, Nat.reduceLT, Nat.reduceLeDiff, Nat.reduceSub, Int.reduceToNat, Int.reduceLE, Int.reduceLT, Int.reduceNeg, Int.reduceBEq, Int.reduceBNe, Nat.reduceMul, Int.reduceAdd, Int.reduceMul, Int.reduceSub, Int.reduceEq, Int.reduceNe]
  cases h6 : gIn t.cold c.cold.lo c.cold.hi
  · simp (config := { maxSteps := 400000 }) only [atSpec, if_pos h0', trueB, h1, h2, h3, h4, h5, h6, go_sem, ↓reduceIte, reduceCtorEq, Nat.reduceEqDiff, Nat.reduceAdd, Nat.reduceLT, Nat.reduceLeDiff, Nat.reduceSub, Int.reduceToNat, Int.reduceLE, Int.reduceLT, Int.reduceNeg, Int.reduceBEq, Int.reduceBNe, Nat.reduceMul, Int.reduceAdd, Int.reduceMul, Int.reduceSub, Int.reduceEq, Int.reduceNe]
  have htr : trueB w x c t = true := by simp [trueB, h1, h2, h3, h4, h5, h6]
  have hat : atSpec s k c t w x = (burnOf x.chill t, 0) := by rw [atSpec, if_pos h0', if_pos htr]
  rw [hat]
  simp (config := { maxSteps := 400000 }) only [go_sem, ↓reduceIte, reduceCtorEq, Nat.reduceEqDiff, Nat.reduceAdd, Nat.reduceLT, Nat.reduceLeDiff, Nat.reduceSub, Int.reduceToNat, Int.reduceLE, Int.reduceLT, Int.reduceNeg, Int.reduceBEq, Int.reduceBNe, Nat.reduceMul, Int.reduceAdd, Int.reduceMul, Int.reduceSub, Int.reduceEq, Int.reduceNe]
  refine WF_pure (cBurn s c x t (tok_of hk.wo hs.xo hs.co htr) hs.xo.c) rfl ?_
  simp (config := { maxSteps := 400000 }) only [go_sem, ↓reduceIte, reduceCtorEq, Nat.reduceEqDiff, Nat.reduceAdd, Nat.reduceLT, Nat.reduceLeDiff, Nat.reduceSub, Int.reduceToNat, Int.reduceLE, Int.reduceLT, Int.reduceNeg, Int.reduceBEq, Int.reduceBNe, Nat.reduceMul, Int.reduceAdd, Int.reduceMul, Int.reduceSub, Int.reduceEq, Int.reduceNe]
theorem cRefAt (s : Shop) (k : Int) (c : Candle) (t : Truth) (w : Wick) (x : Wax) (h : askErr s [k] c = 0 → Site s c x ∧ SiteK s k w) :
    PCall Try.prog 18 [s.pv, .int .i64 k, c.pv, t.pv] (.tuple [(atSpec s k c t w x).1.pv, .int .i64 (atSpec s k c t w x).2]) := by
  refine pcall_of_wp draws (fn := Try.f18) (n := 33) (rs := [.cell 8 40, .tmp 9]) (by kernel_rfl) rfl rfl rfl ok18 (Nat.le_of_ble_eq_true rfl) ?_
  simp (config := { maxSteps := 400000 }) only [go_sem, ↓reduceIte, reduceCtorEq, Nat.reduceEqDiff, Nat.reduceAdd, Nat.reduceLT, Nat.reduceLeDiff, Nat.reduceSub, Int.reduceToNat, Int.reduceLE, Int.reduceLT, Int.reduceNeg, Int.reduceBEq, Int.reduceBNe, Nat.reduceMul, Int.reduceAdd, Int.reduceMul, Int.reduceSub, Int.reduceEq, Int.reduceNe]
  refine WF_pure (cRefAsked s k c) rfl ?_
  simp (config := { maxSteps := 400000 }) only [go_sem, ↓reduceIte, reduceCtorEq, Nat.reduceEqDiff, Nat.reduceAdd, Nat.reduceLT, Nat.reduceLeDiff, Nat.reduceSub, Int.reduceToNat, Int.reduceLE, Int.reduceLT, Int.reduceNeg, Int.reduceBEq, Int.reduceBNe, Nat.reduceMul, Int.reduceAdd, Int.reduceMul, Int.reduceSub, Int.reduceEq, Int.reduceNe]
  cases h0 : (askErr s [k] c == 0)
  · have h0' : ¬ askErr s [k] c = 0 := by simpa using h0
    have h0n : (askErr s [k] c != 0) = true := by simp [bne, h0]
    simp (config := { maxSteps := 400000 }) only [h0n, atSpec, if_neg h0', go_sem, ↓reduceIte, reduceCtorEq, Nat.reduceEqDiff, Nat.reduceAdd, Nat.reduceLT, Nat.reduceLeDiff, Nat.reduceSub, Int.reduceToNat, Int.reduceLE, Int.reduceLT, Int.reduceNeg, Int.reduceBEq, Int.reduceBNe, Nat.reduceMul, Int.reduceAdd, Int.reduceMul, Int.reduceSub, Int.reduceEq, Int.reduceNe]
  have h0' : askErr s [k] c = 0 := by simpa using h0
  obtain ⟨hs, hk⟩ := h h0'
  simp (config := { maxSteps := 400000 }) only [go_sem, ↓reduceIte, reduceCtorEq, Nat.reduceEqDiff, Nat.reduceAdd, Nat.reduceLT, Nat.reduceLeDiff, Nat.reduceSub, Int.reduceToNat, Int.reduceLE, Int.reduceLT, Int.reduceNeg, Int.reduceBEq, Int.reduceBNe, Nat.reduceMul, Int.reduceAdd, Int.reduceMul, Int.reduceSub, Int.reduceEq, Int.reduceNe]
  refine WF_pure (cTrue s c x k w t hs hk) rfl ?_
  simp (config := { maxSteps := 400000 }) only [go_sem, ↓reduceIte, reduceCtorEq, Nat.reduceEqDiff, Nat.reduceAdd, Nat.reduceLT, Nat.reduceLeDiff, Nat.reduceSub, Int.reduceToNat, Int.reduceLE, Int.reduceLT, Int.reduceNeg, Int.reduceBEq, Int.reduceBNe, Nat.reduceMul, Int.reduceAdd, Int.reduceMul, Int.reduceSub, Int.reduceEq, Int.reduceNe]
  cases htr : trueB w x c t
  · simp (config := { maxSteps := 400000 }) only [atSpec, h0', htr, go_sem, ↓reduceIte, reduceCtorEq, Nat.reduceEqDiff, Nat.reduceAdd, Nat.reduceLT, Nat.reduceLeDiff, Nat.reduceSub, Int.reduceToNat, Int.reduceLE, Int.reduceLT, Int.reduceNeg, Int.reduceBEq, Int.reduceBNe, Nat.reduceMul, Int.reduceAdd, Int.reduceMul, Int.reduceSub, Int.reduceEq, Int.reduceNe]
  have h0n : (askErr s [k] c != 0) = false := by simp [bne, h0]
  simp (config := { maxSteps := 400000 }) only [h0n, go_sem, ↓reduceIte, reduceCtorEq, Nat.reduceEqDiff, Nat.reduceAdd, Nat.reduceLT, Nat.reduceLeDiff, Nat.reduceSub, Int.reduceToNat, Int.reduceLE, Int.reduceLT, Int.reduceNeg, Int.reduceBEq, Int.reduceBNe, Nat.reduceMul, Int.reduceAdd, Int.reduceMul, Int.reduceSub, Int.reduceEq, Int.reduceNe]
  refine WF_pure (cBurns s c x t hs (tok_of hk.wo hs.xo hs.co htr)) rfl ?_
  simp (config := { maxSteps := 400000 }) only [atSpec, h0', htr, go_sem, ↓reduceIte, reduceCtorEq, Nat.reduceEqDiff, Nat.reduceAdd, Nat.reduceLT, Nat.reduceLeDiff, Nat.reduceSub, Int.reduceToNat, Int.reduceLE, Int.reduceLT, Int.reduceNeg, Int.reduceBEq, Int.reduceBNe, Nat.reduceMul, Int.reduceAdd, Int.reduceMul, Int.reduceSub, Int.reduceEq, Int.reduceNe]

/-- Burn: the ends, and the error -/
def burnSpec (s : Shop) (k : Int) (c : Candle) (w : Wick) (x : Wax) : Burn × Burn × Int :=
  if askErr s [k] c = 0 then (leastB w x c, mostB w x c, 0) else (zeroB, zeroB, askErr s [k] c)
theorem cWickBurn (s : Shop) (k : Int) (c : Candle) (w : Wick) (x : Wax) (h : askErr s [k] c = 0 → Site s c x ∧ SiteK s k w) :
    PCall Try.prog 19 [s.pv, .int .i64 k, c.pv] (.tuple [(burnSpec s k c w x).1.pv, (burnSpec s k c w x).2.1.pv, .int .i64 (burnSpec s k c w x).2.2]) := by
  refine pcall_of_wp draws (fn := Try.f19) (n := 31) (rs := [.cell 6 40, .cell 7 40, .tmp 8]) (by kernel_rfl) rfl rfl rfl ok19 (Nat.le_of_ble_eq_true rfl) ?_
  simp (config := { maxSteps := 400000 }) only [H19, W_drawH, go_sem, ↓reduceIte, reduceCtorEq, Nat.reduceEqDiff, Nat.reduceAdd, Nat.reduceLT, Nat.reduceLeDiff, Nat.reduceSub, Int.reduceToNat, Int.reduceLE, Int.reduceLT, Int.reduceNeg, Int.reduceBEq, Int.reduceBNe, Nat.reduceMul, Int.reduceAdd, Int.reduceMul, Int.reduceSub, Int.reduceEq, Int.reduceNe]
  refine WF_pure (cOpen s c [k] true _ rfl (by simp) x (fun h0 => (h h0).1.hx)) rfl ?_
  simp (config := { maxSteps := 400000 }) only [H19, W_drawH, go_sem, ↓reduceIte, reduceCtorEq, Nat.reduceEqDiff, Nat.reduceAdd, Nat.reduceLT, Nat.reduceLeDiff, Nat.reduceSub, Int.reduceToNat, Int.reduceLE, Int.reduceLT, Int.reduceNeg, Int.reduceBEq, Int.reduceBNe, Nat.reduceMul, Int.reduceAdd, Int.reduceMul, Int.reduceSub, Int.reduceEq, Int.reduceNe]
  cases h0 : (askErr s [k] c != 0)
  rotate_left
  · have h0' : ¬ askErr s [k] c = 0 := by simpa using h0
    simp (config := { maxSteps := 400000 }) only [H19, W_drawH, burnSpec, if_neg h0', go_sem, ↓reduceIte, reduceCtorEq, Nat.reduceEqDiff, Nat.reduceAdd, Nat.reduceLT, Nat.reduceLeDiff, Nat.reduceSub, Int.reduceToNat, Int.reduceLE, Int.reduceLT, Int.reduceNeg, Int.reduceBEq, Int.reduceBNe, Nat.reduceMul, Int.reduceAdd, Int.reduceMul, Int.reduceSub, Int.reduceEq, Int.reduceNe]
  have h0' : askErr s [k] c = 0 := by simpa using h0
  obtain ⟨hs, hk⟩ := h h0'
  simp (config := { maxSteps := 400000 }) only [H19, W_drawH, if_pos h0', go_sem, ↓reduceIte, reduceCtorEq, Nat.reduceEqDiff, Nat.reduceAdd, Nat.reduceLT, Nat.reduceLeDiff, Nat.reduceSub, Int.reduceToNat, Int.reduceLE, Int.reduceLT, Int.reduceNeg, Int.reduceBEq, Int.reduceBNe, Nat.reduceMul, Int.reduceAdd, Int.reduceMul, Int.reduceSub, Int.reduceEq, Int.reduceNe]
  refine WF_pure (cEnds s c x k w hs hk) rfl ?_
  simp (config := { maxSteps := 400000 }) only [H19, W_drawH, burnSpec, if_pos h0', go_sem, ↓reduceIte, reduceCtorEq, Nat.reduceEqDiff, Nat.reduceAdd, Nat.reduceLT, Nat.reduceLeDiff, Nat.reduceSub, Int.reduceToNat, Int.reduceLE, Int.reduceLT, Int.reduceNeg, Int.reduceBEq, Int.reduceBNe, Nat.reduceMul, Int.reduceAdd, Int.reduceMul, Int.reduceSub, Int.reduceEq, Int.reduceNe]
theorem cRefBurn (s : Shop) (k : Int) (c : Candle) (w : Wick) (x : Wax) (h : askErr s [k] c = 0 → Site s c x ∧ SiteK s k w) :
    PCall Try.prog 20 [s.pv, .int .i64 k, c.pv] (.tuple [(burnSpec s k c w x).1.pv, (burnSpec s k c w x).2.1.pv, .int .i64 (burnSpec s k c w x).2.2]) := by
  refine pcall_of_wp draws (fn := Try.f20) (n := 36) (rs := [.cell 6 40, .cell 7 40, .tmp 8]) (by kernel_rfl) rfl rfl rfl ok20 (Nat.le_of_ble_eq_true rfl) ?_
  simp (config := { maxSteps := 400000 }) only [go_sem, ↓reduceIte, reduceCtorEq, Nat.reduceEqDiff, Nat.reduceAdd, Nat.reduceLT, Nat.reduceLeDiff, Nat.reduceSub, Int.reduceToNat, Int.reduceLE, Int.reduceLT, Int.reduceNeg, Int.reduceBEq, Int.reduceBNe, Nat.reduceMul, Int.reduceAdd, Int.reduceMul, Int.reduceSub, Int.reduceEq, Int.reduceNe]
  refine WF_pure (cRefAsked s k c) rfl ?_
  simp (config := { maxSteps := 400000 }) only [go_sem, ↓reduceIte, reduceCtorEq, Nat.reduceEqDiff, Nat.reduceAdd, Nat.reduceLT, Nat.reduceLeDiff, Nat.reduceSub, Int.reduceToNat, Int.reduceLE, Int.reduceLT, Int.reduceNeg, Int.reduceBEq, Int.reduceBNe, Nat.reduceMul, Int.reduceAdd, Int.reduceMul, Int.reduceSub, Int.reduceEq, Int.reduceNe]
  cases h0 : (askErr s [k] c != 0)
  rotate_left
  · have h0' : ¬ askErr s [k] c = 0 := by simpa using h0
    simp (config := { maxSteps := 400000 }) only [burnSpec, if_neg h0', go_sem, ↓reduceIte, reduceCtorEq, Nat.reduceEqDiff, Nat.reduceAdd, Nat.reduceLT, Nat.reduceLeDiff, Nat.reduceSub, Int.reduceToNat, Int.reduceLE, Int.reduceLT, Int.reduceNeg, Int.reduceBEq, Int.reduceBNe, Nat.reduceMul, Int.reduceAdd, Int.reduceMul, Int.reduceSub, Int.reduceEq, Int.reduceNe]
  have h0' : askErr s [k] c = 0 := by simpa using h0
  obtain ⟨hs, hk⟩ := h h0'
  simp (config := { maxSteps := 400000 }) only [go_sem, ↓reduceIte, reduceCtorEq, Nat.reduceEqDiff, Nat.reduceAdd, Nat.reduceLT, Nat.reduceLeDiff, Nat.reduceSub, Int.reduceToNat, Int.reduceLE, Int.reduceLT, Int.reduceNeg, Int.reduceBEq, Int.reduceBNe, Nat.reduceMul, Int.reduceAdd, Int.reduceMul, Int.reduceSub, Int.reduceEq, Int.reduceNe]
  refine WF_pure (cRefEnds s c x k w hs hk) rfl ?_
  simp (config := { maxSteps := 400000 }) only [go_sem, ↓reduceIte, reduceCtorEq, Nat.reduceEqDiff, Nat.reduceAdd, Nat.reduceLT, Nat.reduceLeDiff, Nat.reduceSub, Int.reduceToNat, Int.reduceLE, Int.reduceLT, Int.reduceNeg, Int.reduceBEq, Int.reduceBNe, Nat.reduceMul, Int.reduceAdd, Int.reduceMul, Int.reduceSub, Int.reduceEq, Int.reduceNe]
  refine WDQ_pure (cBurns s c x _ hs (leastOk hk.wo hs.xo hs.co)) rfl ?_
  simp (config := { maxSteps := 400000 }) only [go_sem, ↓reduceIte, reduceCtorEq, Nat.reduceEqDiff, Nat.reduceAdd, Nat.reduceLT, Nat.reduceLeDiff, Nat.reduceSub, Int.reduceToNat, Int.reduceLE, Int.reduceLT, Int.reduceNeg, Int.reduceBEq, Int.reduceBNe, Nat.reduceMul, Int.reduceAdd, Int.reduceMul, Int.reduceSub, Int.reduceEq, Int.reduceNe]
  refine WDQ_pure (cBurns s c x _ hs (mostOk hk.wo hs.xo hs.co)) rfl ?_
  simp (config := { maxSteps := 400000 }) only [burnSpec, if_pos h0', leastB, mostB, go_sem, ↓reduceIte, reduceCtorEq, Nat.reduceEqDiff, Nat.reduceAdd, Nat.reduceLT, Nat.reduceLeDiff, Nat.reduceSub, Int.reduceToNat, Int.reduceLE, Int.reduceLT, Int.reduceNeg, Int.reduceBEq, Int.reduceBNe, Nat.reduceMul, Int.reduceAdd, Int.reduceMul, Int.reduceSub, Int.reduceEq, Int.reduceNe]

/-- Minutes -/
theorem rate_pos {w : Wick} {x : Wax} {c : Candle} (hw : WickOk w) (hx : WaxOk x) (hc : CandleOk c) : 1 ≤ (leastB w x c).rate ∧ (leastB w x c).rate ≤ 5700000000 ∧ 1 ≤ (mostB w x c).rate ∧ (mostB w x c).rate ≤ 5700000000 := by
  have h1 := (leastOk hw hx hc).b.2.1
  have h2 := (mostOk hw hx hc).b.2.1
  have pos : ∀ t : Truth, 1 ≤ t.pull → 1 ≤ t.flow → -90 ≤ t.draught → 1 ≤ drawnOf t := by
    intro t h1 h2 h3
    unfold drawnOf
    have h4 : 1 * 1 ≤ t.pull * t.flow := Int.mul_le_mul h1 h2 (by omega) (by omega)
    have h5 : 1 * 1 ≤ (t.pull * t.flow) * (100 + t.draught) := Int.mul_le_mul (by omega) (by omega) (by omega) (by omega)
    omega
  have p1 := pos (leastT w x c) hw.p.1 hx.f.1 (by have := hc.g; simp only [leastT]; omega)
  have p2 := pos (mostT w x c) (by have := hw.p; simp only [mostT]; omega) (by have := hx.f; simp only [mostT]; omega) (by have := hc.g; simp only [mostT]; omega)
  simp only [leastB, mostB, burnOf]
  omega
def minSpan (w : Wick) (x : Wax) (c : Candle) (g : Int) : Span := ⟨(600 * g * 1000000).tdiv (mostB w x c).rate, (600 * g * 1000000 + (leastB w x c).rate - 1).tdiv (leastB w x c).rate⟩
def minSpec (s : Shop) (k : Int) (c : Candle) (g : Int) (w : Wick) (x : Wax) : Span × Int :=
  if askErr s [k] c = 0 then (if gIn g 1 100000 = true then (minSpan w x c g, 0) else (⟨0, 0⟩, 7)) else (⟨0, 0⟩, askErr s [k] c)
theorem tdiv_bd {a b : Int} (ha : 0 ≤ a) (hA : a ≤ 9000000000000000000) (hb : 1 ≤ b) : IntKind.i64.wrap (a.tdiv b) = a.tdiv b := by
  have h1 : 0 ≤ a.tdiv b := Int.tdiv_nonneg ha (by omega)
  have h2 : a.tdiv b ≤ a := Int.tdiv_le_self b ha
  exact wrap_in (by omega) (by omega)
theorem cWickMinutes (s : Shop) (k : Int) (c : Candle) (g : Int) (w : Wick) (x : Wax) (h : askErr s [k] c = 0 → Site s c x ∧ SiteK s k w) :
    PCall Try.prog 21 [s.pv, .int .i64 k, c.pv, .int .i64 g] (.tuple [(minSpec s k c g w x).1.pv, .int .i64 (minSpec s k c g w x).2]) := by
  refine pcall_of_wp draws (fn := Try.f21) (n := 54) (rs := [.cell 8 25, .tmp 9]) (by kernel_rfl) rfl rfl rfl ok21 (Nat.le_of_ble_eq_true rfl) ?_
  simp (config := { maxSteps := 400000 }) only [go_sem, ↓reduceIte, reduceCtorEq, Nat.reduceEqDiff, Nat.reduceAdd, Nat.reduceLT, Nat.reduceLeDiff, Nat.reduceSub, Int.reduceToNat, Int.reduceLE, Int.reduceLT, Int.reduceNeg, Int.reduceBEq, Int.reduceBNe, Nat.reduceMul, Int.reduceAdd, Int.reduceMul, Int.reduceSub, Int.reduceEq, Int.reduceNe]
  refine WF_pure (cOpen s c [k] true _ rfl (by simp) x (fun h0 => (h h0).1.hx)) rfl ?_
  simp (config := { maxSteps := 400000 }) only [go_sem, ↓reduceIte, reduceCtorEq, Nat.reduceEqDiff, Nat.reduceAdd, Nat.reduceLT, Nat.reduceLeDiff, Nat.reduceSub, Int.reduceToNat, Int.reduceLE, Int.reduceLT, Int.reduceNeg, Int.reduceBEq, Int.reduceBNe, Nat.reduceMul, Int.reduceAdd, Int.reduceMul, Int.reduceSub, Int.reduceEq, Int.reduceNe]
  cases h0 : (askErr s [k] c != 0)
  rotate_left
  · have h0' : ¬ askErr s [k] c = 0 := by simpa using h0
    simp (config := { maxSteps := 400000 }) only [minSpec, if_neg h0', go_sem, ↓reduceIte, reduceCtorEq, Nat.reduceEqDiff, Nat.reduceAdd, Nat.reduceLT, Nat.reduceLeDiff, Nat.reduceSub, Int.reduceToNat, Int.reduceLE, Int.reduceLT, Int.reduceNeg, Int.reduceBEq, Int.reduceBNe, Nat.reduceMul, Int.reduceAdd, Int.reduceMul, Int.reduceSub, Int.reduceEq, Int.reduceNe]
  have h0' : askErr s [k] c = 0 := by simpa using h0
  obtain ⟨hs, hk⟩ := h h0'
  simp (config := { maxSteps := 400000 }) only [if_pos h0', go_sem, ↓reduceIte, reduceCtorEq, Nat.reduceEqDiff, Nat.reduceAdd, Nat.reduceLT, Nat.reduceLeDiff, Nat.reduceSub, Int.reduceToNat, Int.reduceLE, Int.reduceLT, Int.reduceNeg, Int.reduceBEq, Int.reduceBNe, Nat.reduceMul, Int.reduceAdd, Int.reduceMul, Int.reduceSub, Int.reduceEq, Int.reduceNe]
  refine WF_pure (cOut _ _ [_] true (by simp)) rfl ?_
  simp (config := { maxSteps := 400000 }) only [List.any_cons, List.any_nil, go_sem, ↓reduceIte, reduceCtorEq, Nat.reduceEqDiff, Nat.reduceAdd, Nat.reduceLT, Nat.reduceLeDiff, Nat.reduceSub, Int.reduceToNat, Int.reduceLE, Int.reduceLT, Int.reduceNeg, Int.reduceBEq, Int.reduceBNe, Nat.reduceMul, Int.reduceAdd, Int.reduceMul, Int.reduceSub, Int.reduceEq, Int.reduceNe]
  cases h1 : gIn g 1 100000
  · simp (config := { maxSteps := 400000 }) only [minSpec, if_pos h0', h1, go_sem, ↓reduceIte, reduceCtorEq, Nat.reduceEqDiff, Nat.reduceAdd, Nat.reduceLT, Nat.reduceLeDiff, Nat.reduceSub, Int.reduceToNat, Int.reduceLE, Int.reduceLT, Int.reduceNeg, Int.reduceBEq, Int.reduceBNe, Nat.reduceMul, Int.reduceAdd, Int.reduceMul, Int.reduceSub, Int.reduceEq, Int.reduceNe]
  have hg := gIn_iff.1 h1
  obtain ⟨r1, r2, r3, r4⟩ := rate_pos hk.wo hs.xo hs.co
  have w1 : IntKind.i64.wrap (600 * g) = 600 * g := wrap_in (by omega) (by omega)
  have w2 : IntKind.i64.wrap (600 * g * 1000000) = 600 * g * 1000000 := wrap_in (by omega) (by omega)
  have w3 : IntKind.i64.wrap (600 * g * 1000000 + (leastB w x c).rate) = 600 * g * 1000000 + (leastB w x c).rate := wrap_in (by omega) (by omega)
  have w4 : IntKind.i64.wrap (600 * g * 1000000 + (leastB w x c).rate - 1) = 600 * g * 1000000 + (leastB w x c).rate - 1 := wrap_in (by omega) (by omega)
  have n1 : ¬ (leastB w x c).rate = 0 := by omega
  have n2 : ¬ (mostB w x c).rate = 0 := by omega
  have d1 := tdiv_bd (a := 600 * g * 1000000) (b := (mostB w x c).rate) (by omega) (by omega) r3
  have d2 := tdiv_bd (a := 600 * g * 1000000 + (leastB w x c).rate - 1) (b := (leastB w x c).rate) (by omega) (by omega) r1
  simp (config := { maxSteps := 400000 }) only [go_sem, ↓reduceIte, reduceCtorEq, Nat.reduceEqDiff, Nat.reduceAdd, Nat.reduceLT, Nat.reduceLeDiff, Nat.reduceSub, Int.reduceToNat, Int.reduceLE, Int.reduceLT, Int.reduceNeg, Int.reduceBEq, Int.reduceBNe, Nat.reduceMul, Int.reduceAdd, Int.reduceMul, Int.reduceSub, Int.reduceEq, Int.reduceNe]
  refine WF_pure (cEnds s c x k w hs hk) rfl ?_
  simp (config := { maxSteps := 400000 }) only [w1, w2, w3, w4, if_neg n1, if_neg n2, d1, d2, minSpec, if_pos h0', h1, minSpan, go_sem, ↓reduceIte, reduceCtorEq, Nat.reduceEqDiff, Nat.reduceAdd, Nat.reduceLT, Nat.reduceLeDiff, Nat.reduceSub, Int.reduceToNat, Int.reduceLE, Int.reduceLT, Int.reduceNeg, Int.reduceBEq, Int.reduceBNe, Nat.reduceMul, Int.reduceAdd, Int.reduceMul, Int.reduceSub, Int.reduceEq, Int.reduceNe]
theorem cRefMinutes (s : Shop) (k : Int) (c : Candle) (g : Int) (w : Wick) (x : Wax) (h : askErr s [k] c = 0 → Site s c x ∧ SiteK s k w) :
    PCall Try.prog 22 [s.pv, .int .i64 k, c.pv, .int .i64 g] (.tuple [(minSpec s k c g w x).1.pv, .int .i64 (minSpec s k c g w x).2]) := by
  refine pcall_of_wp draws (fn := Try.f22) (n := 61) (rs := [.cell 8 25, .tmp 9]) (by kernel_rfl) rfl rfl rfl ok22 (Nat.le_of_ble_eq_true rfl) ?_
  simp (config := { maxSteps := 400000 }) only [go_sem, ↓reduceIte, reduceCtorEq, Nat.reduceEqDiff, Nat.reduceAdd, Nat.reduceLT, Nat.reduceLeDiff, Nat.reduceSub, Int.reduceToNat, Int.reduceLE, Int.reduceLT, Int.reduceNeg, Int.reduceBEq, Int.reduceBNe, Nat.reduceMul, Int.reduceAdd, Int.reduceMul, Int.reduceSub, Int.reduceEq, Int.reduceNe]
  refine WF_pure (cRefAsked s k c) rfl ?_
  simp (config := { maxSteps := 400000 }) only [go_sem, ↓reduceIte, reduceCtorEq, Nat.reduceEqDiff, Nat.reduceAdd, Nat.reduceLT, Nat.reduceLeDiff, Nat.reduceSub, Int.reduceToNat, Int.reduceLE, Int.reduceLT, Int.reduceNeg, Int.reduceBEq, Int.reduceBNe, Nat.reduceMul, Int.reduceAdd, Int.reduceMul, Int.reduceSub, Int.reduceEq, Int.reduceNe]
  cases h0 : (askErr s [k] c == 0)
  · have h0' : ¬ askErr s [k] c = 0 := by simpa using h0
    have h0n : (askErr s [k] c != 0) = true := by simp [bne, h0]
    simp (config := { maxSteps := 400000 }) only [h0n, minSpec, if_neg h0', go_sem, ↓reduceIte, reduceCtorEq, Nat.reduceEqDiff, Nat.reduceAdd, Nat.reduceLT, Nat.reduceLeDiff, Nat.reduceSub, Int.reduceToNat, Int.reduceLE, Int.reduceLT, Int.reduceNeg, Int.reduceBEq, Int.reduceBNe, Nat.reduceMul, Int.reduceAdd, Int.reduceMul, Int.reduceSub, Int.reduceEq, Int.reduceNe]
  have h0' : askErr s [k] c = 0 := by simpa using h0
  have h0n : (askErr s [k] c != 0) = false := by simp [bne, h0]
  obtain ⟨hs, hk⟩ := h h0'
  simp (config := { maxSteps := 400000 }) only [go_sem, ↓reduceIte, reduceCtorEq, Nat.reduceEqDiff, Nat.reduceAdd, Nat.reduceLT, Nat.reduceLeDiff, Nat.reduceSub, Int.reduceToNat, Int.reduceLE, Int.reduceLT, Int.reduceNeg, Int.reduceBEq, Int.reduceBNe, Nat.reduceMul, Int.reduceAdd, Int.reduceMul, Int.reduceSub, Int.reduceEq, Int.reduceNe]
  refine WF_pure (cIn1 _ _ _) rfl ?_
  simp (config := { maxSteps := 400000 }) only [go_sem, ↓reduceIte, reduceCtorEq, Nat.reduceEqDiff, Nat.reduceAdd, Nat.reduceLT, Nat.reduceLeDiff, Nat.reduceSub, Int.reduceToNat, Int.reduceLE, Int.reduceLT, Int.reduceNeg, Int.reduceBEq, Int.reduceBNe, Nat.reduceMul, Int.reduceAdd, Int.reduceMul, Int.reduceSub, Int.reduceEq, Int.reduceNe]
  cases h1 : gIn g 1 100000
  · simp (config := { maxSteps := 400000 }) only [minSpec, if_pos h0', h1, go_sem, ↓reduceIte, reduceCtorEq, Nat.reduceEqDiff, Nat.reduceAdd, Nat.reduceLT, Nat.reduceLeDiff, Nat.reduceSub, Int.reduceToNat, Int.reduceLE, Int.reduceLT, Int.reduceNeg, Int.reduceBEq, Int.reduceBNe, Nat.reduceMul, Int.reduceAdd, Int.reduceMul, Int.reduceSub, Int.reduceEq, Int.reduceNe]
  have hg := gIn_iff.1 h1
  obtain ⟨r1, r2, r3, r4⟩ := rate_pos hk.wo hs.xo hs.co
  have w1 : IntKind.i64.wrap (600 * g) = 600 * g := wrap_in (by omega) (by omega)
  have w2 : IntKind.i64.wrap (600 * g * 1000000) = 600 * g * 1000000 := wrap_in (by omega) (by omega)
  have w3 : IntKind.i64.wrap (600 * g * 1000000 + (leastB w x c).rate) = 600 * g * 1000000 + (leastB w x c).rate := wrap_in (by omega) (by omega)
  have w4 : IntKind.i64.wrap (600 * g * 1000000 + (leastB w x c).rate - 1) = 600 * g * 1000000 + (leastB w x c).rate - 1 := wrap_in (by omega) (by omega)
  have n1 : ¬ (leastB w x c).rate = 0 := by omega
  have n2 : ¬ (mostB w x c).rate = 0 := by omega
  have d1 := tdiv_bd (a := 600 * g * 1000000) (b := (mostB w x c).rate) (by omega) (by omega) r3
  have d2 := tdiv_bd (a := 600 * g * 1000000 + (leastB w x c).rate - 1) (b := (leastB w x c).rate) (by omega) (by omega) r1
  simp (config := { maxSteps := 400000 }) only [h0n, go_sem, ↓reduceIte, reduceCtorEq, Nat.reduceEqDiff, Nat.reduceAdd, Nat.reduceLT, Nat.reduceLeDiff, Nat.reduceSub, Int.reduceToNat, Int.reduceLE, Int.reduceLT, Int.reduceNeg, Int.reduceBEq, Int.reduceBNe, Nat.reduceMul, Int.reduceAdd, Int.reduceMul, Int.reduceSub, Int.reduceEq, Int.reduceNe]
  refine WF_pure (cRefEnds s c x k w hs hk) rfl ?_
  simp (config := { maxSteps := 400000 }) only [go_sem, ↓reduceIte, reduceCtorEq, Nat.reduceEqDiff, Nat.reduceAdd, Nat.reduceLT, Nat.reduceLeDiff, Nat.reduceSub, Int.reduceToNat, Int.reduceLE, Int.reduceLT, Int.reduceNeg, Int.reduceBEq, Int.reduceBNe, Nat.reduceMul, Int.reduceAdd, Int.reduceMul, Int.reduceSub, Int.reduceEq, Int.reduceNe]
  refine WDQ_pure (cBurns s c x _ hs (leastOk hk.wo hs.xo hs.co)) rfl ?_
  simp (config := { maxSteps := 400000 }) only [go_sem, ↓reduceIte, reduceCtorEq, Nat.reduceEqDiff, Nat.reduceAdd, Nat.reduceLT, Nat.reduceLeDiff, Nat.reduceSub, Int.reduceToNat, Int.reduceLE, Int.reduceLT, Int.reduceNeg, Int.reduceBEq, Int.reduceBNe, Nat.reduceMul, Int.reduceAdd, Int.reduceMul, Int.reduceSub, Int.reduceEq, Int.reduceNe]
  refine WDQ_pure (cBurns s c x _ hs (mostOk hk.wo hs.xo hs.co)) rfl ?_
  have e1 : burnOf x.chill (leastT w x c) = leastB w x c := rfl
  have e2 : burnOf x.chill (mostT w x c) = mostB w x c := rfl
  rw [e1, e2]
  simp (config := { maxSteps := 400000 }) only [w1, w2, w3, w4, if_neg n1, if_neg n2, d1, d2, minSpec, if_pos h0', h1, minSpan, go_sem, ↓reduceIte, reduceCtorEq, Nat.reduceEqDiff, Nat.reduceAdd, Nat.reduceLT, Nat.reduceLeDiff, Nat.reduceSub, Int.reduceToNat, Int.reduceLE, Int.reduceLT, Int.reduceNeg, Int.reduceBEq, Int.reduceBNe, Nat.reduceMul, Int.reduceAdd, Int.reduceMul, Int.reduceSub, Int.reduceEq, Int.reduceNe]

end Abs
end Go.Proofs.Ytdgmmijimclooaa
