/-
  CONTRACTS: what is wrong with a candle, in the program and in the reference.
  CONTRACTS: Listed, Faults.
-/
import Derived.Test.YtdgmmijimclooaaWkAt
namespace Go.Proofs.Ytdgmmijimclooaa
namespace Abs
set_option linter.unusedSimpArgs false
set_option maxRecDepth 4000

structure BOk (b : Burn) : Prop where
  f : 0 ≤ b.flame ∧ b.flame ≤ 100000000000
  p : -2000000000 ≤ b.pool ∧ b.pool ≤ 200000000000
theorem bok_of {t : Truth} {chill : Int} (h : TOk t) (hc : 0 ≤ chill ∧ chill ≤ 50) : BOk (burnOf chill t) := by
  obtain ⟨b1, b2, b3, b4⟩ := h.b
  have bc := mul_bd h.c.1 h.c.2 hc.1 hc.2
  constructor <;> (simp only [burnOf]; omega)
def smokes (s : Shop) (b : Burn) : Bool := decide (s.flame.hi * 1000000 < b.flame)
def goesOut (s : Shop) (b : Burn) : Bool := decide (b.flame < s.flame.lo * 1000000)
def tunnels (s : Shop) (d : Int) (b : Burn) : Bool := decide (b.pool < s.pool.lo * d * 1000)
def runsOver (s : Shop) (d : Int) (b : Burn) : Bool := decide (s.pool.hi * d * 1000 < b.pool)
def flagL (b : Bool) (n : Int) : List Int := if b = true then [n] else []
def wrongOf (s : Shop) (d : Int) (b : Burn) : List Int := flagL (smokes s b) 1 ++ (flagL (goesOut s b) 2 ++ (flagL (tunnels s d b) 3 ++ flagL (runsOver s d b) 4))
def faultsOf (s : Shop) (d : Int) (l m : Burn) : List Int := flagL (smokes s m) 1 ++ (flagL (goesOut s l) 2 ++ (flagL (tunnels s d l) 3 ++ flagL (runsOver s d m) 4))
def intsPV (l : List Int) : PV := .slice 1 (l.map intPV) false

theorem pool_bd {s : Shop} (so : ShopOk s) {d : Int} (hd : 1 ≤ d ∧ d ≤ 2000) : (0 ≤ s.pool.lo * d ∧ s.pool.lo * d ≤ 2000 * 2000) ∧ (0 ≤ s.pool.hi * d ∧ s.pool.hi * d ≤ 2000 * 2000) :=
  ⟨mul_bd (by have := so.po; omega) (by have := so.po; omega) (by omega) hd.2, mul_bd (by have := so.po; omega) (by have := so.po; omega) (by omega) hd.2⟩

theorem cPool (s : Shop) (c : Candle) (x : Wax) (n : Int) (hn : 0 ≤ n * c.diameter ∧ n * c.diameter ≤ 2000 * 2000) : PCall Try.prog 78 [.int .i64 n, .ptr 1 [openPV s c x] 0 0] (.int .i64 (n * c.diameter * 1000)) := by
  have w1 : IntKind.i64.wrap (n * c.diameter) = n * c.diameter := wrap_in (by omega) (by omega)
  have w2 : IntKind.i64.wrap (n * c.diameter * 1000) = n * c.diameter * 1000 := wrap_in (by omega) (by omega)
  refine pcall_of_wp draws (fn := Try.f78) (n := 12) (rs := [.tmp 3]) (by kernel_rfl) rfl rfl rfl ok78 (Nat.le_of_ble_eq_true rfl) ?_
  simp (config := { maxSteps := 400000 }) only [w1, w2, go_sem, ↓reduceIte, reduceCtorEq, Nat.reduceEqDiff, Nat.reduceAdd, Nat.reduceLT, Nat.reduceLeDiff, Nat.reduceSub, Int.reduceToNat, Int.reduceLE, Int.reduceLT, Int.reduceNeg, Int.reduceBEq, Int.reduceBNe, Nat.reduceMul, Int.reduceAdd, Int.reduceMul, Int.reduceSub, Int.reduceEq, Int.reduceNe]
theorem cSmokes (s : Shop) (c : Candle) (x : Wax) (so : ShopOk s) (l m : Burn) : PCall Try.prog 79 [l.pv, m.pv, .ptr 1 [openPV s c x] 0 0] (.bool (smokes s m)) := by
  have w1 : IntKind.i64.wrap (s.flame.hi * 1000000) = s.flame.hi * 1000000 := wrap_in (by have := so.fl; omega) (by have := so.fl; omega)
  refine pcall_of_wp draws (fn := Try.f79) (n := 16) (rs := [.tmp 5]) (by kernel_rfl) rfl rfl rfl ok79 (Nat.le_of_ble_eq_true rfl) ?_
  simp (config := { maxSteps := 400000 }) only [w1, smokes, go_sem, ↓reduceIte, reduceCtorEq, Nat.reduceEqDiff, Nat.reduceAdd, Nat.reduceLT, Nat.reduceLeDiff, Nat.reduceSub, Int.reduceToNat, Int.reduceLE, Int.reduceLT, Int.reduceNeg, Int.reduceBEq, Int.reduceBNe, Nat.reduceMul, Int.reduceAdd, Int.reduceMul, Int.reduceSub, Int.reduceEq, Int.reduceNe]
theorem cGoesOut (s : Shop) (c : Candle) (x : Wax) (so : ShopOk s) (l m : Burn) : PCall Try.prog 80 [l.pv, m.pv, .ptr 1 [openPV s c x] 0 0] (.bool (goesOut s l)) := by
  have w1 : IntKind.i64.wrap (s.flame.lo * 1000000) = s.flame.lo * 1000000 := wrap_in (by have := so.fl; omega) (by have := so.fl; omega)
  refine pcall_of_wp draws (fn := Try.f80) (n := 16) (rs := [.tmp 5]) (by kernel_rfl) rfl rfl rfl ok80 (Nat.le_of_ble_eq_true rfl) ?_
  simp (config := { maxSteps := 400000 }) only [w1, goesOut, go_sem, ↓reduceIte, reduceCtorEq, Nat.reduceEqDiff, Nat.reduceAdd, Nat.reduceLT, Nat.reduceLeDiff, Nat.reduceSub, Int.reduceToNat, Int.reduceLE, Int.reduceLT, Int.reduceNeg, Int.reduceBEq, Int.reduceBNe, Nat.reduceMul, Int.reduceAdd, Int.reduceMul, Int.reduceSub, Int.reduceEq, Int.reduceNe]
def poolPV (s : Shop) (c : Candle) (x : Wax) : PV := .ptr 1 [.func (.func 78) [] [.ptr 1 [openPV s c x] 0 0]] 0 0
attribute [go_sem] poolPV
theorem cTunnels (s : Shop) (c : Candle) (x : Wax) (so : ShopOk s) (co : CandleOk c) (l m : Burn) : PCall Try.prog 81 [l.pv, m.pv, poolPV s c x, .ptr 1 [openPV s c x] 0 0] (.bool (tunnels s c.diameter l)) := by
  refine pcall_of_wp draws (fn := Try.f81) (n := 18) (rs := [.tmp 6]) (by kernel_rfl) rfl rfl rfl ok81 (Nat.le_of_ble_eq_true rfl) ?_
  simp (config := { maxSteps := 400000 }) only [go_sem, ↓reduceIte, reduceCtorEq, Nat.reduceEqDiff, Nat.reduceAdd, Nat.reduceLT, Nat.reduceLeDiff, Nat.reduceSub, Int.reduceToNat, Int.reduceLE, Int.reduceLT, Int.reduceNeg, Int.reduceBEq, Int.reduceBNe, Nat.reduceMul, Int.reduceAdd, Int.reduceMul, Int.reduceSub, Int.reduceEq, Int.reduceNe]
  refine WDQ_pure (cPool s c x s.pool.lo (pool_bd so co.d).1) rfl ?_
  simp (config := { maxSteps := 400000 }) only [tunnels, go_sem, ↓reduceIte, reduceCtorEq, Nat.reduceEqDiff, Nat.reduceAdd, Nat.reduceLT, Nat.reduceLeDiff, Nat.reduceSub, Int.reduceToNat, Int.reduceLE, Int.reduceLT, Int.reduceNeg, Int.reduceBEq, Int.reduceBNe, Nat.reduceMul, Int.reduceAdd, Int.reduceMul, Int.reduceSub, Int.reduceEq, Int.reduceNe]
theorem cRuns (s : Shop) (c : Candle) (x : Wax) (so : ShopOk s) (co : CandleOk c) (l m : Burn) : PCall Try.prog 82 [l.pv, m.pv, poolPV s c x, .ptr 1 [openPV s c x] 0 0] (.bool (runsOver s c.diameter m)) := by
  refine pcall_of_wp draws (fn := Try.f82) (n := 18) (rs := [.tmp 6]) (by kernel_rfl) rfl rfl rfl ok82 (Nat.le_of_ble_eq_true rfl) ?_
  simp (config := { maxSteps := 400000 }) only [go_sem, ↓reduceIte, reduceCtorEq, Nat.reduceEqDiff, Nat.reduceAdd, Nat.reduceLT, Nat.reduceLeDiff, Nat.reduceSub, Int.reduceToNat, Int.reduceLE, Int.reduceLT, Int.reduceNeg, Int.reduceBEq, Int.reduceBNe, Nat.reduceMul, Int.reduceAdd, Int.reduceMul, Int.reduceSub, Int.reduceEq, Int.reduceNe]
  refine WDQ_pure (cPool s c x s.pool.hi (pool_bd so co.d).2) rfl ?_
  simp (config := { maxSteps := 400000 }) only [runsOver, go_sem, ↓reduceIte, reduceCtorEq, Nat.reduceEqDiff, Nat.reduceAdd, Nat.reduceLT, Nat.reduceLeDiff, Nat.reduceSub, Int.reduceToNat, Int.reduceLE, Int.reduceLT, Int.reduceNeg, Int.reduceBEq, Int.reduceBNe, Nat.reduceMul, Int.reduceAdd, Int.reduceMul, Int.reduceSub, Int.reduceEq, Int.reduceNe]

def outs (a b c d : Bool) : Nat → List Int
  | 0 => []
  | 1 => flagL a 1
  | 2 => flagL a 1 ++ flagL b 2
  | 3 => flagL a 1 ++ flagL b 2 ++ flagL c 3
  | _ => flagL a 1 ++ flagL b 2 ++ flagL c 3 ++ flagL d 4
theorem flagL_len (b : Bool) (n : Int) : (flagL b n).length ≤ 1 := by cases b <;> simp [flagL]
theorem outs_len (a b c d : Bool) (i : Nat) : (outs a b c d i).length ≤ 4 := by
  have h1 := flagL_len a 1; have h2 := flagL_len b 2; have h3 := flagL_len c 3; have h4 := flagL_len d 4
  match i with
  | 0 => simp [outs]
  | 1 => simp [outs]; omega
  | 2 => simp [outs]; omega
  | 3 => simp [outs]; omega
  | _ + 4 => simp [outs]; omega
theorem outs_end (s : Shop) (d : Int) (l m : Burn) : outs (smokes s m) (goesOut s l) (tunnels s d l) (runsOver s d m) 4 = faultsOf s d l m := by simp [outs, faultsOf]
theorem cFaultsIn (s : Shop) (c : Candle) (x : Wax) (k : Int) (w : Wick) (hs : Site s c x) (hk : SiteK s k w) : PCall Try.prog 61 [openPV s c x, .int .i64 k] (intsPV (faultsOf s c.diameter (leastB w x c) (mostB w x c))) := by
  refine pcall_of_wp_frzN draws (fn := Try.f61) (n := 45) (rs := [.tmp 4]) (by kernel_rfl) rfl rfl rfl ok61 (Nat.le_of_ble_eq_true rfl) ?_
  simp (config := { maxSteps := 400000 }) only [go_sem, ↓reduceIte, reduceCtorEq, Nat.reduceEqDiff, Nat.reduceAdd, Nat.reduceLT, Nat.reduceLeDiff, Nat.reduceSub, Int.reduceToNat, Int.reduceLE, Int.reduceLT, Int.reduceNeg, Int.reduceBEq, Int.reduceBNe, Nat.reduceMul, Int.reduceAdd, Int.reduceMul, Int.reduceSub, Int.reduceEq, Int.reduceNe]
  refine WF_pure (cEnds s c x k w hs hk) rfl ?_
  simp (config := { maxSteps := 400000 }) only [go_sem, ↓reduceIte, reduceCtorEq, Nat.reduceEqDiff, Nat.reduceAdd, Nat.reduceLT, Nat.reduceLeDiff, Nat.reduceSub, Int.reduceToNat, Int.reduceLE, Int.reduceLT, Int.reduceNeg, Int.reduceBEq, Int.reduceBNe, Nat.reduceMul, Int.reduceAdd, Int.reduceMul, Int.reduceSub, Int.reduceEq, Int.reduceNe]
  refine W_loop_nil 4 1 (by simp (config := { maxSteps := 400000 }) only [go_sem, ↓reduceIte, reduceCtorEq, Nat.reduceEqDiff, Nat.reduceAdd, Nat.reduceLT, Nat.reduceLeDiff, Nat.reduceSub, Int.reduceToNat, Int.reduceLE, Int.reduceLT, Int.reduceNeg, Int.reduceBEq, Int.reduceBNe, Nat.reduceMul, Int.reduceAdd, Int.reduceMul, Int.reduceSub, Int.reduceEq, Int.reduceNe]) ?_
  simp (config := { maxSteps := 400000 }) only [go_sem, ↓reduceIte, reduceCtorEq, Nat.reduceEqDiff, Nat.reduceAdd, Nat.reduceLT, Nat.reduceLeDiff, Nat.reduceSub, Int.reduceToNat, Int.reduceLE, Int.reduceLT, Int.reduceNeg, Int.reduceBEq, Int.reduceBNe, Nat.reduceMul, Int.reduceAdd, Int.reduceMul, Int.reduceSub, Int.reduceEq, Int.reduceNe]
  generalize ho : outs (smokes s (mostB w x c)) (goesOut s (leastB w x c)) (tunnels s c.diameter (leastB w x c)) (runsOver s c.diameter (mostB w x c)) = o
  have hlen : ∀ i, (o i).length + 1 ≤ room := fun i => by
    have := outs_len (smokes s (mostB w x c)) (goesOut s (leastB w x c)) (tunnels s c.diameter (leastB w x c)) (runsOver s c.diameter (mostB w x c)) i
    rw [ho] at this
    simp only [room]; omega
  refine W_loopS [7, 8, 27, 28] (σ := Nat) (fun i => i ≤ 4) (fun i => 4 - i) (fun i => [(4, .slice 5 (o i).length 0 (o i).length), (29, .p (.int .i64 i))]) (fun i h => h.set 5 (.row 1 ((o i).map fun n => .p (.int .i64 n)))) 0 (by omega) ?_ ?_
  · have h0 : o 0 = [] := by rw [← ho]; rfl
    simp (config := { maxSteps := 400000 }) only [h0, go_sem, ↓reduceIte, reduceCtorEq, Nat.reduceEqDiff, Nat.reduceAdd, Nat.reduceLT, Nat.reduceLeDiff, Nat.reduceSub, Int.reduceToNat, Int.reduceLE, Int.reduceLT, Int.reduceNeg, Int.reduceBEq, Int.reduceBNe, Nat.reduceMul, Int.reduceAdd, Int.reduceMul, Int.reduceSub, Int.reduceEq, Int.reduceNe]
  intro i hi
  have hcase : i = 0 ∨ i = 1 ∨ i = 2 ∨ i = 3 ∨ i = 4 := by omega
  rcases hcase with rfl | rfl | rfl | rfl | rfl
  · have hl := hlen 0
    have h1 : o 1 = o 0 ++ flagL (smokes s (mostB w x c)) 1 := by rw [← ho]; simp [outs]
    simp (config := { maxSteps := 400000 }) only [go_sem, ↓reduceIte, reduceCtorEq, Nat.reduceEqDiff, Nat.reduceAdd, Nat.reduceLT, Nat.reduceLeDiff, Nat.reduceSub, Int.reduceToNat, Int.reduceLE, Int.reduceLT, Int.reduceNeg, Int.reduceBEq, Int.reduceBNe, Nat.reduceMul, Int.reduceAdd, Int.reduceMul, Int.reduceSub, Int.reduceEq, Int.reduceNe]
    refine WF_frz (cSmokes s c x hs.so (leastB w x c) (mostB w x c)) ?_ (.bool _) ?_
    · simp (config := { maxSteps := 400000 }) only [go_sem, ↓reduceIte, reduceCtorEq, Nat.reduceEqDiff, Nat.reduceAdd, Nat.reduceLT, Nat.reduceLeDiff, Nat.reduceSub, Int.reduceToNat, Int.reduceLE, Int.reduceLT, Int.reduceNeg, Int.reduceBEq, Int.reduceBNe, Nat.reduceMul, Int.reduceAdd, Int.reduceMul, Int.reduceSub, Int.reduceEq, Int.reduceNe]
    simp (config := { maxSteps := 400000 }) only [go_sem, ↓reduceIte, reduceCtorEq, Nat.reduceEqDiff, Nat.reduceAdd, Nat.reduceLT, Nat.reduceLeDiff, Nat.reduceSub, Int.reduceToNat, Int.reduceLE, Int.reduceLT, Int.reduceNeg, Int.reduceBEq, Int.reduceBNe, Nat.reduceMul, Int.reduceAdd, Int.reduceMul, Int.reduceSub, Int.reduceEq, Int.reduceNe]
    cases hb : smokes s (mostB w x c)
    · have h1' : o 1 = o 0 := by rw [h1, hb]; simp [flagL]
      simp (config := { maxSteps := 400000 }) only [go_sem, ↓reduceIte, reduceCtorEq, Nat.reduceEqDiff, Nat.reduceAdd, Nat.reduceLT, Nat.reduceLeDiff, Nat.reduceSub, Int.reduceToNat, Int.reduceLE, Int.reduceLT, Int.reduceNeg, Int.reduceBEq, Int.reduceBNe, Nat.reduceMul, Int.reduceAdd, Int.reduceMul, Int.reduceSub, Int.reduceEq, Int.reduceNe]
      refine WQ_headA 1 (by omega) (by omega) ?_
      simp (config := { maxSteps := 400000 }) only [h1', go_sem, ↓reduceIte, reduceCtorEq, Nat.reduceEqDiff, Nat.reduceAdd, Nat.reduceLT, Nat.reduceLeDiff, Nat.reduceSub, Int.reduceToNat, Int.reduceLE, Int.reduceLT, Int.reduceNeg, Int.reduceBEq, Int.reduceBNe, Nat.reduceMul, Int.reduceAdd, Int.reduceMul, Int.reduceSub, Int.reduceEq, Int.reduceNe]
    · have h1' : o 1 = o 0 ++ [1] := by rw [h1, hb]; rfl
      simp (config := { maxSteps := 400000 }) only [hl, go_sem, ↓reduceIte, reduceCtorEq, Nat.reduceEqDiff, Nat.reduceAdd, Nat.reduceLT, Nat.reduceLeDiff, Nat.reduceSub, Int.reduceToNat, Int.reduceLE, Int.reduceLT, Int.reduceNeg, Int.reduceBEq, Int.reduceBNe, Nat.reduceMul, Int.reduceAdd, Int.reduceMul, Int.reduceSub, Int.reduceEq, Int.reduceNe]
      refine WQ_headA 1 (by omega) (by omega) ?_
      simp (config := { maxSteps := 400000 }) only [h1', List.length_append, List.map_append, go_sem, ↓reduceIte, reduceCtorEq, Nat.reduceEqDiff, Nat.reduceAdd, Nat.reduceLT, Nat.reduceLeDiff, Nat.reduceSub, Int.reduceToNat, Int.reduceLE, Int.reduceLT, Int.reduceNeg, Int.reduceBEq, Int.reduceBNe, Nat.reduceMul, Int.reduceAdd, Int.reduceMul, Int.reduceSub, Int.reduceEq, Int.reduceNe]
  · have hl := hlen 1
    have h1 : o 2 = o 1 ++ flagL (goesOut s (leastB w x c)) 2 := by rw [← ho]; simp [outs]
    simp (config := { maxSteps := 400000 }) only [go_sem, ↓reduceIte, reduceCtorEq, Nat.reduceEqDiff, Nat.reduceAdd, Nat.reduceLT, Nat.reduceLeDiff, Nat.reduceSub, Int.reduceToNat, Int.reduceLE, Int.reduceLT, Int.reduceNeg, Int.reduceBEq, Int.reduceBNe, Nat.reduceMul, Int.reduceAdd, Int.reduceMul, Int.reduceSub, Int.reduceEq, Int.reduceNe]
    refine WF_frz (cGoesOut s c x hs.so (leastB w x c) (mostB w x c)) ?_ (.bool _) ?_
    · simp (config := { maxSteps := 400000 }) only [go_sem, ↓reduceIte, reduceCtorEq, Nat.reduceEqDiff, Nat.reduceAdd, Nat.reduceLT, Nat.reduceLeDiff, Nat.reduceSub, Int.reduceToNat, Int.reduceLE, Int.reduceLT, Int.reduceNeg, Int.reduceBEq, Int.reduceBNe, Nat.reduceMul, Int.reduceAdd, Int.reduceMul, Int.reduceSub, Int.reduceEq, Int.reduceNe]
    simp (config := { maxSteps := 400000 }) only [go_sem, ↓reduceIte, reduceCtorEq, Nat.reduceEqDiff, Nat.reduceAdd, Nat.reduceLT, Nat.reduceLeDiff, Nat.reduceSub, Int.reduceToNat, Int.reduceLE, Int.reduceLT, Int.reduceNeg, Int.reduceBEq, Int.reduceBNe, Nat.reduceMul, Int.reduceAdd, Int.reduceMul, Int.reduceSub, Int.reduceEq, Int.reduceNe]
    cases hb : goesOut s (leastB w x c)
    · have h1' : o 2 = o 1 := by rw [h1, hb]; simp [flagL]
      simp (config := { maxSteps := 400000 }) only [go_sem, ↓reduceIte, reduceCtorEq, Nat.reduceEqDiff, Nat.reduceAdd, Nat.reduceLT, Nat.reduceLeDiff, Nat.reduceSub, Int.reduceToNat, Int.reduceLE, Int.reduceLT, Int.reduceNeg, Int.reduceBEq, Int.reduceBNe, Nat.reduceMul, Int.reduceAdd, Int.reduceMul, Int.reduceSub, Int.reduceEq, Int.reduceNe]
      refine WQ_headA 2 (by omega) (by omega) ?_
      simp (config := { maxSteps := 400000 }) only [h1', go_sem, ↓reduceIte, reduceCtorEq, Nat.reduceEqDiff, Nat.reduceAdd, Nat.reduceLT, Nat.reduceLeDiff, Nat.reduceSub, Int.reduceToNat, Int.reduceLE, Int.reduceLT, Int.reduceNeg, Int.reduceBEq, Int.reduceBNe, Nat.reduceMul, Int.reduceAdd, Int.reduceMul, Int.reduceSub, Int.reduceEq, Int.reduceNe]
    · have h1' : o 2 = o 1 ++ [2] := by rw [h1, hb]; rfl
      simp (config := { maxSteps := 400000 }) only [hl, go_sem, ↓reduceIte, reduceCtorEq, Nat.reduceEqDiff, Nat.reduceAdd, Nat.reduceLT, Nat.reduceLeDiff, Nat.reduceSub, Int.reduceToNat, Int.reduceLE, Int.reduceLT, Int.reduceNeg, Int.reduceBEq, Int.reduceBNe, Nat.reduceMul, Int.reduceAdd, Int.reduceMul, Int.reduceSub, Int.reduceEq, Int.reduceNe]
      refine WQ_headA 2 (by omega) (by omega) ?_
      simp (config := { maxSteps := 400000 }) only [h1', List.length_append, List.map_append, go_sem, ↓reduceIte, reduceCtorEq, Nat.reduceEqDiff, Nat.reduceAdd, Nat.reduceLT, Nat.reduceLeDiff, Nat.reduceSub, Int.reduceToNat, Int.reduceLE, Int.reduceLT, Int.reduceNeg, Int.reduceBEq, Int.reduceBNe, Nat.reduceMul, Int.reduceAdd, Int.reduceMul, Int.reduceSub, Int.reduceEq, Int.reduceNe]
  · have hl := hlen 2
    have h1 : o 3 = o 2 ++ flagL (tunnels s c.diameter (leastB w x c)) 3 := by rw [← ho]; simp [outs]
    simp (config := { maxSteps := 400000 }) only [go_sem, ↓reduceIte, reduceCtorEq, Nat.reduceEqDiff, Nat.reduceAdd, Nat.reduceLT, Nat.reduceLeDiff, Nat.reduceSub, Int.reduceToNat, Int.reduceLE, Int.reduceLT, Int.reduceNeg, Int.reduceBEq, Int.reduceBNe, Nat.reduceMul, Int.reduceAdd, Int.reduceMul, Int.reduceSub, Int.reduceEq, Int.reduceNe]
    refine WF_frz (cTunnels s c x hs.so hs.co (leastB w x c) (mostB w x c)) ?_ (.bool _) ?_
    · simp (config := { maxSteps := 400000 }) only [go_sem, ↓reduceIte, reduceCtorEq, Nat.reduceEqDiff, Nat.reduceAdd, Nat.reduceLT, Nat.reduceLeDiff, Nat.reduceSub, Int.reduceToNat, Int.reduceLE, Int.reduceLT, Int.reduceNeg, Int.reduceBEq, Int.reduceBNe, Nat.reduceMul, Int.reduceAdd, Int.reduceMul, Int.reduceSub, Int.reduceEq, Int.reduceNe]
    simp (config := { maxSteps := 400000 }) only [go_sem, ↓reduceIte, reduceCtorEq, Nat.reduceEqDiff, Nat.reduceAdd, Nat.reduceLT, Nat.reduceLeDiff, Nat.reduceSub, Int.reduceToNat, Int.reduceLE, Int.reduceLT, Int.reduceNeg, Int.reduceBEq, Int.reduceBNe, Nat.reduceMul, Int.reduceAdd, Int.reduceMul, Int.reduceSub, Int.reduceEq, Int.reduceNe]
    cases hb : tunnels s c.diameter (leastB w x c)
    · have h1' : o 3 = o 2 := by rw [h1, hb]; simp [flagL]
      simp (config := { maxSteps := 400000 }) only [go_sem, ↓reduceIte, reduceCtorEq, Nat.reduceEqDiff, Nat.reduceAdd, Nat.reduceLT, Nat.reduceLeDiff, Nat.reduceSub, Int.reduceToNat, Int.reduceLE, Int.reduceLT, Int.reduceNeg, Int.reduceBEq, Int.reduceBNe, Nat.reduceMul, Int.reduceAdd, Int.reduceMul, Int.reduceSub, Int.reduceEq, Int.reduceNe]
      refine WQ_headA 3 (by omega) (by omega) ?_
      simp (config := { maxSteps := 400000 }) only [h1', go_sem, ↓reduceIte, reduceCtorEq, Nat.reduceEqDiff, Nat.reduceAdd, Nat.reduceLT, Nat.reduceLeDiff, Nat.reduceSub, Int.reduceToNat, Int.reduceLE, Int.reduceLT, Int.reduceNeg, Int.reduceBEq, Int.reduceBNe, Nat.reduceMul, Int.reduceAdd, Int.reduceMul, Int.reduceSub, Int.reduceEq, Int.reduceNe]
    · have h1' : o 3 = o 2 ++ [3] := by rw [h1, hb]; rfl
      simp (config := { maxSteps := 400000 }) only [hl, go_sem, ↓reduceIte, reduceCtorEq, Nat.reduceEqDiff, Nat.reduceAdd, Nat.reduceLT, Nat.reduceLeDiff, Nat.reduceSub, Int.reduceToNat, Int.reduceLE, Int.reduceLT, Int.reduceNeg, Int.reduceBEq, Int.reduceBNe, Nat.reduceMul, Int.reduceAdd, Int.reduceMul, Int.reduceSub, Int.reduceEq, Int.reduceNe]
      refine WQ_headA 3 (by omega) (by omega) ?_
      simp (config := { maxSteps := 400000 }) only [h1', List.length_append, List.map_append, go_sem, ↓reduceIte, reduceCtorEq, Nat.reduceEqDiff, Nat.reduceAdd, Nat.reduceLT, Nat.reduceLeDiff, Nat.reduceSub, Int.reduceToNat, Int.reduceLE, Int.reduceLT, Int.reduceNeg, Int.reduceBEq, Int.reduceBNe, Nat.reduceMul, Int.reduceAdd, Int.reduceMul, Int.reduceSub, Int.reduceEq, Int.reduceNe]
  · have hl := hlen 3
    have h1 : o 4 = o 3 ++ flagL (runsOver s c.diameter (mostB w x c)) 4 := by rw [← ho]; simp [outs]
    simp (config := { maxSteps := 400000 }) only [go_sem, ↓reduceIte, reduceCtorEq, Nat.reduceEqDiff, Nat.reduceAdd, Nat.reduceLT, Nat.reduceLeDiff, Nat.reduceSub, Int.reduceToNat, Int.reduceLE, Int.reduceLT, Int.reduceNeg, Int.reduceBEq, Int.reduceBNe, Nat.reduceMul, Int.reduceAdd, Int.reduceMul, Int.reduceSub, Int.reduceEq, Int.reduceNe]
    refine WF_frz (cRuns s c x hs.so hs.co (leastB w x c) (mostB w x c)) ?_ (.bool _) ?_
    · simp (config := { maxSteps := 400000 }) only [go_sem, ↓reduceIte, reduceCtorEq, Nat.reduceEqDiff, Nat.reduceAdd, Nat.reduceLT, Nat.reduceLeDiff, Nat.reduceSub, Int.reduceToNat, Int.reduceLE, Int.reduceLT, Int.reduceNeg, Int.reduceBEq, Int.reduceBNe, Nat.reduceMul, Int.reduceAdd, Int.reduceMul, Int.reduceSub, Int.reduceEq, Int.reduceNe]
    simp (config := { maxSteps := 400000 }) only [go_sem, ↓reduceIte, reduceCtorEq, Nat.reduceEqDiff, Nat.reduceAdd, Nat.reduceLT, Nat.reduceLeDiff, Nat.reduceSub, Int.reduceToNat, Int.reduceLE, Int.reduceLT, Int.reduceNeg, Int.reduceBEq, Int.reduceBNe, Nat.reduceMul, Int.reduceAdd, Int.reduceMul, Int.reduceSub, Int.reduceEq, Int.reduceNe]
    cases hb : runsOver s c.diameter (mostB w x c)
    · have h1' : o 4 = o 3 := by rw [h1, hb]; simp [flagL]
      simp (config := { maxSteps := 400000 }) only [go_sem, ↓reduceIte, reduceCtorEq, Nat.reduceEqDiff, Nat.reduceAdd, Nat.reduceLT, Nat.reduceLeDiff, Nat.reduceSub, Int.reduceToNat, Int.reduceLE, Int.reduceLT, Int.reduceNeg, Int.reduceBEq, Int.reduceBNe, Nat.reduceMul, Int.reduceAdd, Int.reduceMul, Int.reduceSub, Int.reduceEq, Int.reduceNe]
      refine WQ_headA 4 (by omega) (by omega) ?_
      simp (config := { maxSteps := 400000 }) only [h1', go_sem, ↓reduceIte, reduceCtorEq, Nat.reduceEqDiff, Nat.reduceAdd, Nat.reduceLT, Nat.reduceLeDiff, Nat.reduceSub, Int.reduceToNat, Int.reduceLE, Int.reduceLT, Int.reduceNeg, Int.reduceBEq, Int.reduceBNe, Nat.reduceMul, Int.reduceAdd, Int.reduceMul, Int.reduceSub, Int.reduceEq, Int.reduceNe]
    · have h1' : o 4 = o 3 ++ [4] := by rw [h1, hb]; rfl
      simp (config := { maxSteps := 400000 }) only [hl, go_sem, ↓reduceIte, reduceCtorEq, Nat.reduceEqDiff, Nat.reduceAdd, Nat.reduceLT, Nat.reduceLeDiff, Nat.reduceSub, Int.reduceToNat, Int.reduceLE, Int.reduceLT, Int.reduceNeg, Int.reduceBEq, Int.reduceBNe, Nat.reduceMul, Int.reduceAdd, Int.reduceMul, Int.reduceSub, Int.reduceEq, Int.reduceNe]
      refine WQ_headA 4 (by omega) (by omega) ?_
      simp (config := { maxSteps := 400000 }) only [h1', List.length_append, List.map_append, go_sem, ↓reduceIte, reduceCtorEq, Nat.reduceEqDiff, Nat.reduceAdd, Nat.reduceLT, Nat.reduceLeDiff, Nat.reduceSub, Int.reduceToNat, Int.reduceLE, Int.reduceLT, Int.reduceNeg, Int.reduceBEq, Int.reduceBNe, Nat.reduceMul, Int.reduceAdd, Int.reduceMul, Int.reduceSub, Int.reduceEq, Int.reduceNe]
  · have h4 : o 4 = faultsOf s c.diameter (leastB w x c) (mostB w x c) := by rw [← ho]; exact outs_end _ _ _ _
    simp (config := { maxSteps := 400000 }) only [h4, intsPV, go_sem, ↓reduceIte, reduceCtorEq, Nat.reduceEqDiff, Nat.reduceAdd, Nat.reduceLT, Nat.reduceLeDiff, Nat.reduceSub, Int.reduceToNat, Int.reduceLE, Int.reduceLT, Int.reduceNeg, Int.reduceBEq, Int.reduceBNe, Nat.reduceMul, Int.reduceAdd, Int.reduceMul, Int.reduceSub, Int.reduceEq, Int.reduceNe]
    exact .inl (.inl rfl)

/-! ### the reference -/
theorem wrongL (s : Shop) (d : Int) (b : Burn) : wrongOf s d b = outs (smokes s b) (goesOut s b) (tunnels s d b) (runsOver s d b) 4 := by simp [outs, wrongOf]
theorem cHas (l : List Int) (n : Int) (b : Bool) (hl : l.length < 1000000) : PCall Try.prog 39 [.slice 1 (l.map intPV) b, .int .i64 n] (.bool (l.any fun m => m == n)) := by
  refine pcall_of_wp draws (fn := Try.f39) (n := 18) (rs := [.tmp 4]) (by kernel_rfl) rfl rfl rfl ok39 (Nat.le_of_ble_eq_true rfl) ?_
  simp (config := { maxSteps := 400000 }) only [go_sem, ↓reduceIte, reduceCtorEq, Nat.reduceEqDiff, Nat.reduceAdd, Nat.reduceLT, Nat.reduceLeDiff, Nat.reduceSub, Int.reduceToNat, Int.reduceLE, Int.reduceLT, Int.reduceNeg, Int.reduceBEq, Int.reduceBNe, Nat.reduceMul, Int.reduceAdd, Int.reduceMul, Int.reduceSub, Int.reduceEq, Int.reduceNe]
  refine W_loopH [0, 1] (σ := List Int × List Int) (fun q => l = q.1 ++ q.2 ∧ (l.any fun m => m == n) = (q.2.any fun m => m == n)) (fun q => q.2.length) (fun q => [(5, .p (.int .i64 q.1.length))]) ([], l) ⟨rfl, rfl⟩ ?_ ?_
  · simp (config := { maxSteps := 400000 }) only [go_sem, ↓reduceIte, reduceCtorEq, Nat.reduceEqDiff, Nat.reduceAdd, Nat.reduceLT, Nat.reduceLeDiff, Nat.reduceSub, Int.reduceToNat, Int.reduceLE, Int.reduceLT, Int.reduceNeg, Int.reduceBEq, Int.reduceBNe, Nat.reduceMul, Int.reduceAdd, Int.reduceMul, Int.reduceSub, Int.reduceEq, Int.reduceNe]
  rintro ⟨done, rest⟩ ⟨e1, e2⟩
  dsimp only at e1 e2
  cases rest with
  | nil =>
    have hlt : ¬ ((done.length : Int) < (l.length : Int)) := by rw [e1]; simp
    simp (config := { maxSteps := 400000 }) only [hlt, go_sem, ↓reduceIte, reduceCtorEq, Nat.reduceEqDiff, Nat.reduceAdd, Nat.reduceLT, Nat.reduceLeDiff, Nat.reduceSub, Int.reduceToNat, Int.reduceLE, Int.reduceLT, Int.reduceNeg, Int.reduceBEq, Int.reduceBNe, Nat.reduceMul, Int.reduceAdd, Int.reduceMul, Int.reduceSub, Int.reduceEq, Int.reduceNe]
    rw [e2]; rfl
  | cons x r =>
    obtain ⟨hx, hlt⟩ := list_at e1
    have hnx : IntKind.i64.wrap ((done.length : Int) + 1) = (((done ++ [x]).length : Nat) : Int) := wrap_add (by omega) (by simp [room]; omega) (by simp)
    simp (config := { maxSteps := 400000 }) only [hlt, hx, go_sem, ↓reduceIte, reduceCtorEq, Nat.reduceEqDiff, Nat.reduceAdd, Nat.reduceLT, Nat.reduceLeDiff, Nat.reduceSub, Int.reduceToNat, Int.reduceLE, Int.reduceLT, Int.reduceNeg, Int.reduceBEq, Int.reduceBNe, Nat.reduceMul, Int.reduceAdd, Int.reduceMul, Int.reduceSub, Int.reduceEq, Int.reduceNe]
    rw [List.any_cons] at e2
    cases hb : (x == n)
    · simp (config := { maxSteps := 400000 }) only [go_sem, ↓reduceIte, reduceCtorEq, Nat.reduceEqDiff, Nat.reduceAdd, Nat.reduceLT, Nat.reduceLeDiff, Nat.reduceSub, Int.reduceToNat, Int.reduceLE, Int.reduceLT, Int.reduceNeg, Int.reduceBEq, Int.reduceBNe, Nat.reduceMul, Int.reduceAdd, Int.reduceMul, Int.reduceSub, Int.reduceEq, Int.reduceNe]
      refine WQ_headA (done ++ [x], r) ⟨by simp [e1], by rw [e2, hb]; rfl⟩ (by simp) ?_
      simp (config := { maxSteps := 400000 }) only [hnx, go_sem, ↓reduceIte, reduceCtorEq, Nat.reduceEqDiff, Nat.reduceAdd, Nat.reduceLT, Nat.reduceLeDiff, Nat.reduceSub, Int.reduceToNat, Int.reduceLE, Int.reduceLT, Int.reduceNeg, Int.reduceBEq, Int.reduceBNe, Nat.reduceMul, Int.reduceAdd, Int.reduceMul, Int.reduceSub, Int.reduceEq, Int.reduceNe]
    · simp (config := { maxSteps := 400000 }) only [go_sem, ↓reduceIte, reduceCtorEq, Nat.reduceEqDiff, Nat.reduceAdd, Nat.reduceLT, Nat.reduceLeDiff, Nat.reduceSub, Int.reduceToNat, Int.reduceLE, Int.reduceLT, Int.reduceNeg, Int.reduceBEq, Int.reduceBNe, Nat.reduceMul, Int.reduceAdd, Int.reduceMul, Int.reduceSub, Int.reduceEq, Int.reduceNe]
      rw [e2, hb]; rfl
theorem cHasI (l : List Int) (n : Int) (b : Bool) (xs : List PV) (hx : xs = l.map intPV) (hl : l.length < 1000000) : PCall Try.prog 39 [.slice 1 xs b, .int .i64 n] (.bool (l.any fun m => m == n)) := by
  subst hx; exact cHas l n b hl

theorem cWrong (s : Shop) (c : Candle) (b : Burn) (so : ShopOk s) (co : CandleOk c) (hb : BOk b) : PCall Try.prog 40 [s.pv, c.pv, b.pv] (intsPV (wrongOf s c.diameter b)) := by
  have hpo := pool_bd so co.d
  have hfl := so.fl
  have hp := hb.p
  have hf := hb.f
  have w1 : IntKind.i64.wrap (s.flame.hi * 1000000) = s.flame.hi * 1000000 := wrap_in (by omega) (by omega)
  have w2 : IntKind.i64.wrap (s.flame.lo * 1000000) = s.flame.lo * 1000000 := wrap_in (by omega) (by omega)
  have w3 : IntKind.i64.wrap (1000 * b.pool) = 1000 * b.pool := wrap_in (by omega) (by omega)
  have w4 : IntKind.i64.wrap (s.pool.lo * c.diameter) = s.pool.lo * c.diameter := wrap_in (by omega) (by omega)
  have w5 : IntKind.i64.wrap (s.pool.hi * c.diameter) = s.pool.hi * c.diameter := wrap_in (by omega) (by omega)
  have w6 : IntKind.i64.wrap (s.pool.lo * c.diameter * 1000000) = s.pool.lo * c.diameter * 1000000 := wrap_in (by omega) (by omega)
  have w7 : IntKind.i64.wrap (s.pool.hi * c.diameter * 1000000) = s.pool.hi * c.diameter * 1000000 := wrap_in (by omega) (by omega)
  have t1 : decide (1000 * b.pool < s.pool.lo * c.diameter * 1000000) = tunnels s c.diameter b := by unfold tunnels; congr 1; apply propext; constructor <;> intro h <;> omega
  have t2 : decide (s.pool.hi * c.diameter * 1000000 < 1000 * b.pool) = runsOver s c.diameter b := by unfold runsOver; congr 1; apply propext; constructor <;> intro h <;> omega
  have t3 : decide (s.flame.hi * 1000000 < b.flame) = smokes s b := rfl
  have t4 : decide (b.flame < s.flame.lo * 1000000) = goesOut s b := rfl
  have hr : (1 : Nat) ≤ room ∧ (2 : Nat) ≤ room ∧ (3 : Nat) ≤ room ∧ (4 : Nat) ≤ room := by simp [room]
  obtain ⟨r1, r2, r3, r4⟩ := hr
  refine pcall_of_wp_frzN draws (fn := Try.f40) (n := 57) (rs := [.tmp 6]) (by kernel_rfl) rfl rfl rfl ok40 (Nat.le_of_ble_eq_true rfl) ?_
  simp (config := { maxSteps := 400000 }) only [w1, t3, go_sem, ↓reduceIte, reduceCtorEq, Nat.reduceEqDiff, Nat.reduceAdd, Nat.reduceLT, Nat.reduceLeDiff, Nat.reduceSub, Int.reduceToNat, Int.reduceLE, Int.reduceLT, Int.reduceNeg, Int.reduceBEq, Int.reduceBNe, Nat.reduceMul, Int.reduceAdd, Int.reduceMul, Int.reduceSub, Int.reduceEq, Int.reduceNe]
  cases h1 : smokes s b <;> simp (config := { maxSteps := 400000 }) only [w2, t4, r1, go_sem, ↓reduceIte, reduceCtorEq, Nat.reduceEqDiff, Nat.reduceAdd, Nat.reduceLT, Nat.reduceLeDiff, Nat.reduceSub, Int.reduceToNat, Int.reduceLE, Int.reduceLT, Int.reduceNeg, Int.reduceBEq, Int.reduceBNe, Nat.reduceMul, Int.reduceAdd, Int.reduceMul, Int.reduceSub, Int.reduceEq, Int.reduceNe] <;> cases h2 : goesOut s b <;> simp (config := { maxSteps := 400000 }) only [w3, w4, w6, t1, r1, r2, go_sem, ↓reduceIte, reduceCtorEq, Nat.reduceEqDiff, Nat.reduceAdd, Nat.reduceLT, Nat.reduceLeDiff, Nat.reduceSub, Int.reduceToNat, Int.reduceLE, Int.reduceLT, Int.reduceNeg, Int.reduceBEq, Int.reduceBNe, Nat.reduceMul, Int.reduceAdd, Int.reduceMul, Int.reduceSub, Int.reduceEq, Int.reduceNe] <;> cases h3 : tunnels s c.diameter b <;> simp (config := { maxSteps := 400000 }) only [w3, w5, w7, t2, r1, r2, r3, go_sem, ↓reduceIte, reduceCtorEq, Nat.reduceEqDiff, Nat.reduceAdd, Nat.reduceLT, Nat.reduceLeDiff, Nat.reduceSub, Int.reduceToNat, Int.reduceLE, Int.reduceLT, Int.reduceNeg, Int.reduceBEq, Int.reduceBNe, Nat.reduceMul, Int.reduceAdd, Int.reduceMul, Int.reduceSub, Int.reduceEq, Int.reduceNe] <;> cases h4 : runsOver s c.diameter b <;>
    simp (config := { maxSteps := 400000 }) only [intsPV, wrongOf, flagL, h1, h2, h3, h4, r1, r2, r3, r4, Bool.false_eq_true, List.append_nil, List.nil_append, List.cons_append, List.map_cons, List.map_nil, go_sem, ↓reduceIte, reduceCtorEq, Nat.reduceEqDiff, Nat.reduceAdd, Nat.reduceLT, Nat.reduceLeDiff, Nat.reduceSub, Int.reduceToNat, Int.reduceLE, Int.reduceLT, Int.reduceNeg, Int.reduceBEq, Int.reduceBNe, Nat.reduceMul, Int.reduceAdd, Int.reduceMul, Int.reduceSub, Int.reduceEq, Int.reduceNe]
  all_goals first | exact ⟨1, rfl⟩ | exact .inl ⟨1, rfl⟩ | exact .inl (.inl rfl) | exact .inl (.inr ⟨rfl, 1, rfl⟩)

end Abs
end Go.Proofs.Ytdgmmijimclooaa

namespace Go.Proofs.Ytdgmmijimclooaa
namespace Abs
set_option linter.unusedSimpArgs false
set_option maxRecDepth 4000

theorem drawn_mono {a b : Truth} (h0 : 0 ≤ a.pull) (h1 : a.pull ≤ b.pull) (h2 : 0 ≤ a.flow) (h3 : a.flow ≤ b.flow) (h4 : -100 ≤ a.draught) (h5 : a.draught ≤ b.draught) : 0 ≤ drawnOf a ∧ drawnOf a ≤ drawnOf b := by
  have h6 : 0 ≤ a.pull * a.flow := Int.mul_nonneg h0 h2
  have h7 : a.pull * a.flow ≤ b.pull * b.flow := Int.mul_le_mul h1 h3 h2 (by omega)
  exact ⟨Int.mul_nonneg h6 (by omega), Int.mul_le_mul h7 (by omega) (by omega) (by omega)⟩
/-- more of what draws, less cold -/
theorem burn_mono {a b : Truth} {chill : Int} (hc : 0 ≤ chill) (h0 : 0 ≤ a.pull) (h1 : a.pull ≤ b.pull) (h2 : 0 ≤ a.flow) (h3 : a.flow ≤ b.flow) (h4 : -100 ≤ a.draught) (h5 : a.draught ≤ b.draught) (h6 : 0 ≤ a.rise) (h7 : a.rise ≤ b.rise)
    (h8 : 0 ≤ a.spread) (h9 : a.spread ≤ b.spread) (h10 : b.cold ≤ a.cold) : (burnOf chill a).rate ≤ (burnOf chill b).rate ∧ (burnOf chill a).flame ≤ (burnOf chill b).flame ∧ (burnOf chill a).pool ≤ (burnOf chill b).pool := by
  obtain ⟨d0, d1⟩ := drawn_mono h0 h1 h2 h3 h4 h5
  have e1 : drawnOf a * a.rise ≤ drawnOf b * b.rise := Int.mul_le_mul d1 h7 h6 (by omega)
  have e2 : drawnOf a * a.spread ≤ drawnOf b * b.spread := Int.mul_le_mul d1 h9 h8 (by omega)
  have e3 : b.cold * chill ≤ a.cold * chill := Int.mul_le_mul_of_nonneg_right h10 hc
  simp only [burnOf]
  omega
theorem ends_mono {w : Wick} {x : Wax} {c : Candle} (hw : WickOk w) (hx : WaxOk x) (hc : CandleOk c) : (leastB w x c).rate ≤ (mostB w x c).rate ∧ (leastB w x c).flame ≤ (mostB w x c).flame ∧ (leastB w x c).pool ≤ (mostB w x c).pool := by
  have := hw.p; have := hx.f; have := hx.r; have := hx.s; have := hx.c; have := hc.g; have := hc.c
  refine burn_mono ?_ ?_ ?_ ?_ ?_ ?_ ?_ ?_ ?_ ?_ ?_ ?_ <;> first | omega | (simp only [leastT, mostT]; omega)

theorem has_wrong (s : Shop) (d : Int) (b : Burn) : ((wrongOf s d b).any fun m => m == 1) = smokes s b ∧ ((wrongOf s d b).any fun m => m == 2) = goesOut s b ∧ ((wrongOf s d b).any fun m => m == 3) = tunnels s d b ∧ ((wrongOf s d b).any fun m => m == 4) = runsOver s d b := by
  unfold wrongOf flagL
  cases smokes s b <;> cases goesOut s b <;> cases tunnels s d b <;> cases runsOver s d b <;> decide
theorem wrong_len (s : Shop) (d : Int) (b : Burn) : (wrongOf s d b).length < 1000000 := by
  unfold wrongOf flagL
  cases smokes s b <;> cases goesOut s b <;> cases tunnels s d b <;> cases runsOver s d b <;> decide

theorem cListed (s : Shop) (c : Candle) (x : Wax) (k : Int) (w : Wick) (hs : Site s c x) (hk : SiteK s k w) : PCall Try.prog 62 [s.pv, .int .i64 k, c.pv] (intsPV (faultsOf s c.diameter (leastB w x c) (mostB w x c))) := by
  have hl0 := leastOk hk.wo hs.xo hs.co
  have hm0 := mostOk hk.wo hs.xo hs.co
  have em := ends_mono hk.wo hs.xo hs.co
  have m1 : (smokes s (leastB w x c) || smokes s (mostB w x c)) = smokes s (mostB w x c) := by
    unfold smokes; rw [Bool.eq_iff_iff]; simp; omega
  have m2 : (goesOut s (leastB w x c) || goesOut s (mostB w x c)) = goesOut s (leastB w x c) := by
    unfold goesOut; rw [Bool.eq_iff_iff]; simp; omega
  have m3 : (tunnels s c.diameter (leastB w x c) || tunnels s c.diameter (mostB w x c)) = tunnels s c.diameter (leastB w x c) := by
    unfold tunnels; rw [Bool.eq_iff_iff]; simp; omega
  have m4 : (runsOver s c.diameter (leastB w x c) || runsOver s c.diameter (mostB w x c)) = runsOver s c.diameter (mostB w x c) := by
    unfold runsOver; rw [Bool.eq_iff_iff]; simp; omega
  obtain ⟨p1, p2, p3, p4⟩ := has_wrong s c.diameter (leastB w x c)
  obtain ⟨q1, q2, q3, q4⟩ := has_wrong s c.diameter (mostB w x c)
  have la := wrong_len s c.diameter (leastB w x c)
  have lb := wrong_len s c.diameter (mostB w x c)
  refine pcall_of_wp_frzN draws (fn := Try.f62) (n := 51) (rs := [.tmp 6]) (by kernel_rfl) rfl rfl rfl ok62 (Nat.le_of_ble_eq_true rfl) ?_
  simp (config := { maxSteps := 400000 }) only [go_sem, ↓reduceIte, reduceCtorEq, Nat.reduceEqDiff, Nat.reduceAdd, Nat.reduceLT, Nat.reduceLeDiff, Nat.reduceSub, Int.reduceToNat, Int.reduceLE, Int.reduceLT, Int.reduceNeg, Int.reduceBEq, Int.reduceBNe, Nat.reduceMul, Int.reduceAdd, Int.reduceMul, Int.reduceSub, Int.reduceEq, Int.reduceNe]
  refine WF_pure (cRefEnds s c x k w hs hk) rfl ?_
  simp (config := { maxSteps := 400000 }) only [go_sem, ↓reduceIte, reduceCtorEq, Nat.reduceEqDiff, Nat.reduceAdd, Nat.reduceLT, Nat.reduceLeDiff, Nat.reduceSub, Int.reduceToNat, Int.reduceLE, Int.reduceLT, Int.reduceNeg, Int.reduceBEq, Int.reduceBNe, Nat.reduceMul, Int.reduceAdd, Int.reduceMul, Int.reduceSub, Int.reduceEq, Int.reduceNe]
  refine WDQ_pure (cBurns s c x _ hs hl0) rfl ?_
  simp (config := { maxSteps := 400000 }) only [go_sem, ↓reduceIte, reduceCtorEq, Nat.reduceEqDiff, Nat.reduceAdd, Nat.reduceLT, Nat.reduceLeDiff, Nat.reduceSub, Int.reduceToNat, Int.reduceLE, Int.reduceLT, Int.reduceNeg, Int.reduceBEq, Int.reduceBNe, Nat.reduceMul, Int.reduceAdd, Int.reduceMul, Int.reduceSub, Int.reduceEq, Int.reduceNe]
  refine WDQ_pure (cWrong s c (leastB w x c) hs.so hs.co (bok_of hl0 hs.xo.c)) rfl ?_
  simp (config := { maxSteps := 400000 }) only [go_sem, ↓reduceIte, reduceCtorEq, Nat.reduceEqDiff, Nat.reduceAdd, Nat.reduceLT, Nat.reduceLeDiff, Nat.reduceSub, Int.reduceToNat, Int.reduceLE, Int.reduceLT, Int.reduceNeg, Int.reduceBEq, Int.reduceBNe, Nat.reduceMul, Int.reduceAdd, Int.reduceMul, Int.reduceSub, Int.reduceEq, Int.reduceNe]
  refine WDQ_pure (cBurns s c x _ hs hm0) rfl ?_
  simp (config := { maxSteps := 400000 }) only [go_sem, ↓reduceIte, reduceCtorEq, Nat.reduceEqDiff, Nat.reduceAdd, Nat.reduceLT, Nat.reduceLeDiff, Nat.reduceSub, Int.reduceToNat, Int.reduceLE, Int.reduceLT, Int.reduceNeg, Int.reduceBEq, Int.reduceBNe, Nat.reduceMul, Int.reduceAdd, Int.reduceMul, Int.reduceSub, Int.reduceEq, Int.reduceNe]
  refine WDQ_pure (cWrong s c (mostB w x c) hs.so hs.co (bok_of hm0 hs.xo.c)) rfl ?_
  simp (config := { maxSteps := 400000 }) only [intsPV, go_sem, ↓reduceIte, reduceCtorEq, Nat.reduceEqDiff, Nat.reduceAdd, Nat.reduceLT, Nat.reduceLeDiff, Nat.reduceSub, Int.reduceToNat, Int.reduceLE, Int.reduceLT, Int.reduceNeg, Int.reduceBEq, Int.reduceBNe, Nat.reduceMul, Int.reduceAdd, Int.reduceMul, Int.reduceSub, Int.reduceEq, Int.reduceNe]
  refine W_loop_nil 11 1 (by simp (config := { maxSteps := 400000 }) only [go_sem, ↓reduceIte, reduceCtorEq, Nat.reduceEqDiff, Nat.reduceAdd, Nat.reduceLT, Nat.reduceLeDiff, Nat.reduceSub, Int.reduceToNat, Int.reduceLE, Int.reduceLT, Int.reduceNeg, Int.reduceBEq, Int.reduceBNe, Nat.reduceMul, Int.reduceAdd, Int.reduceMul, Int.reduceSub, Int.reduceEq, Int.reduceNe]) ?_
  simp (config := { maxSteps := 400000 }) only [go_sem, ↓reduceIte, reduceCtorEq, Nat.reduceEqDiff, Nat.reduceAdd, Nat.reduceLT, Nat.reduceLeDiff, Nat.reduceSub, Int.reduceToNat, Int.reduceLE, Int.reduceLT, Int.reduceNeg, Int.reduceBEq, Int.reduceBNe, Nat.reduceMul, Int.reduceAdd, Int.reduceMul, Int.reduceSub, Int.reduceEq, Int.reduceNe]
  generalize ho : outs (smokes s (mostB w x c)) (goesOut s (leastB w x c)) (tunnels s c.diameter (leastB w x c)) (runsOver s c.diameter (mostB w x c)) = o
  have hlen : ∀ i, (o i).length + 1 ≤ room := fun i => by
    have := outs_len (smokes s (mostB w x c)) (goesOut s (leastB w x c)) (tunnels s c.diameter (leastB w x c)) (runsOver s c.diameter (mostB w x c)) i
    rw [ho] at this
    simp only [room]; omega
  refine W_loopS [9, 10] (σ := Nat) (fun i => i ≤ 4) (fun i => 4 - i) (fun i => [(11, .slice 4 (o i).length 0 (o i).length), (12, .p (.int .i64 ((i + 1 : Nat) : Int)))]) (fun i h => h.set 4 (.row 1 ((o i).map fun n => .p (.int .i64 n)))) 0 (by omega) ?_ ?_
  · have h0 : o 0 = [] := by rw [← ho]; rfl
    simp (config := { maxSteps := 400000 }) only [h0, go_sem, ↓reduceIte, reduceCtorEq, Nat.reduceEqDiff, Nat.reduceAdd, Nat.reduceLT, Nat.reduceLeDiff, Nat.reduceSub, Int.reduceToNat, Int.reduceLE, Int.reduceLT, Int.reduceNeg, Int.reduceBEq, Int.reduceBNe, Nat.reduceMul, Int.reduceAdd, Int.reduceMul, Int.reduceSub, Int.reduceEq, Int.reduceNe]
  intro i hi
  have hcase : i = 0 ∨ i = 1 ∨ i = 2 ∨ i = 3 ∨ i = 4 := by omega
  rcases hcase with rfl | rfl | rfl | rfl | rfl
  · have hl := hlen 0
    have h1 : o 1 = o 0 ++ flagL (smokes s (mostB w x c)) 1 := by rw [← ho]; simp [outs]
    simp (config := { maxSteps := 400000 }) only [go_sem, ↓reduceIte, reduceCtorEq, Nat.reduceEqDiff, Nat.reduceAdd, Nat.reduceLT, Nat.reduceLeDiff, Nat.reduceSub, Int.reduceToNat, Int.reduceLE, Int.reduceLT, Int.reduceNeg, Int.reduceBEq, Int.reduceBNe, Nat.reduceMul, Int.reduceAdd, Int.reduceMul, Int.reduceSub, Int.reduceEq, Int.reduceNe]
    refine WF_pure (cHas _ 1 false la) rfl ?_
    simp (config := { maxSteps := 400000 }) only [p1, go_sem, ↓reduceIte, reduceCtorEq, Nat.reduceEqDiff, Nat.reduceAdd, Nat.reduceLT, Nat.reduceLeDiff, Nat.reduceSub, Int.reduceToNat, Int.reduceLE, Int.reduceLT, Int.reduceNeg, Int.reduceBEq, Int.reduceBNe, Nat.reduceMul, Int.reduceAdd, Int.reduceMul, Int.reduceSub, Int.reduceEq, Int.reduceNe]
    have fin0 : smokes s (mostB w x c) = false → o 1 = o 0 := fun hb => by rw [h1, hb]; simp [flagL]
    have fin1 : smokes s (mostB w x c) = true → o 1 = o 0 ++ [1] := fun hb => by rw [h1, hb]; rfl
    cases hb : smokes s (leastB w x c)
    · simp (config := { maxSteps := 400000 }) only [go_sem, ↓reduceIte, reduceCtorEq, Nat.reduceEqDiff, Nat.reduceAdd, Nat.reduceLT, Nat.reduceLeDiff, Nat.reduceSub, Int.reduceToNat, Int.reduceLE, Int.reduceLT, Int.reduceNeg, Int.reduceBEq, Int.reduceBNe, Nat.reduceMul, Int.reduceAdd, Int.reduceMul, Int.reduceSub, Int.reduceEq, Int.reduceNe]
      refine WF_pure (cHas _ 1 false lb) rfl ?_
      simp (config := { maxSteps := 400000 }) only [q1, go_sem, ↓reduceIte, reduceCtorEq, Nat.reduceEqDiff, Nat.reduceAdd, Nat.reduceLT, Nat.reduceLeDiff, Nat.reduceSub, Int.reduceToNat, Int.reduceLE, Int.reduceLT, Int.reduceNeg, Int.reduceBEq, Int.reduceBNe, Nat.reduceMul, Int.reduceAdd, Int.reduceMul, Int.reduceSub, Int.reduceEq, Int.reduceNe]
      cases hb2 : smokes s (mostB w x c)
      · simp (config := { maxSteps := 400000 }) only [go_sem, ↓reduceIte, reduceCtorEq, Nat.reduceEqDiff, Nat.reduceAdd, Nat.reduceLT, Nat.reduceLeDiff, Nat.reduceSub, Int.reduceToNat, Int.reduceLE, Int.reduceLT, Int.reduceNeg, Int.reduceBEq, Int.reduceBNe, Nat.reduceMul, Int.reduceAdd, Int.reduceMul, Int.reduceSub, Int.reduceEq, Int.reduceNe]
        refine WQ_headA 1 (by omega) (by omega) ?_
        simp (config := { maxSteps := 400000 }) only [fin0 (by rw [← m1, hb, hb2]; rfl), go_sem, ↓reduceIte, reduceCtorEq, Nat.reduceEqDiff, Nat.reduceAdd, Nat.reduceLT, Nat.reduceLeDiff, Nat.reduceSub, Int.reduceToNat, Int.reduceLE, Int.reduceLT, Int.reduceNeg, Int.reduceBEq, Int.reduceBNe, Nat.reduceMul, Int.reduceAdd, Int.reduceMul, Int.reduceSub, Int.reduceEq, Int.reduceNe]
      · simp (config := { maxSteps := 400000 }) only [hl, go_sem, ↓reduceIte, reduceCtorEq, Nat.reduceEqDiff, Nat.reduceAdd, Nat.reduceLT, Nat.reduceLeDiff, Nat.reduceSub, Int.reduceToNat, Int.reduceLE, Int.reduceLT, Int.reduceNeg, Int.reduceBEq, Int.reduceBNe, Nat.reduceMul, Int.reduceAdd, Int.reduceMul, Int.reduceSub, Int.reduceEq, Int.reduceNe]
        refine WQ_headA 1 (by omega) (by omega) ?_
        simp (config := { maxSteps := 400000 }) only [fin1 (by rw [← m1, hb, hb2]; rfl), List.length_append, List.map_append, go_sem, ↓reduceIte, reduceCtorEq, Nat.reduceEqDiff, Nat.reduceAdd, Nat.reduceLT, Nat.reduceLeDiff, Nat.reduceSub, Int.reduceToNat, Int.reduceLE, Int.reduceLT, Int.reduceNeg, Int.reduceBEq, Int.reduceBNe, Nat.reduceMul, Int.reduceAdd, Int.reduceMul, Int.reduceSub, Int.reduceEq, Int.reduceNe]
    · simp (config := { maxSteps := 400000 }) only [hl, go_sem, ↓reduceIte, reduceCtorEq, Nat.reduceEqDiff, Nat.reduceAdd, Nat.reduceLT, Nat.reduceLeDiff, Nat.reduceSub, Int.reduceToNat, Int.reduceLE, Int.reduceLT, Int.reduceNeg, Int.reduceBEq, Int.reduceBNe, Nat.reduceMul, Int.reduceAdd, Int.reduceMul, Int.reduceSub, Int.reduceEq, Int.reduceNe]
      refine WQ_headA 1 (by omega) (by omega) ?_
      simp (config := { maxSteps := 400000 }) only [fin1 (by rw [← m1, hb]; rfl), List.length_append, List.map_append, go_sem, ↓reduceIte, reduceCtorEq, Nat.reduceEqDiff, Nat.reduceAdd, Nat.reduceLT, Nat.reduceLeDiff, Nat.reduceSub, Int.reduceToNat, Int.reduceLE, Int.reduceLT, Int.reduceNeg, Int.reduceBEq, Int.reduceBNe, Nat.reduceMul, Int.reduceAdd, Int.reduceMul, Int.reduceSub, Int.reduceEq, Int.reduceNe]
  · have hl := hlen 1
    have h1 : o 2 = o 1 ++ flagL (goesOut s (leastB w x c)) 2 := by rw [← ho]; simp [outs]
    simp (config := { maxSteps := 400000 }) only [go_sem, ↓reduceIte, reduceCtorEq, Nat.reduceEqDiff, Nat.reduceAdd, Nat.reduceLT, Nat.reduceLeDiff, Nat.reduceSub, Int.reduceToNat, Int.reduceLE, Int.reduceLT, Int.reduceNeg, Int.reduceBEq, Int.reduceBNe, Nat.reduceMul, Int.reduceAdd, Int.reduceMul, Int.reduceSub, Int.reduceEq, Int.reduceNe]
    refine WF_pure (cHas _ 2 false la) rfl ?_
    simp (config := { maxSteps := 400000 }) only [p2, go_sem, ↓reduceIte, reduceCtorEq, Nat.reduceEqDiff, Nat.reduceAdd, Nat.reduceLT, Nat.reduceLeDiff, Nat.reduceSub, Int.reduceToNat, Int.reduceLE, Int.reduceLT, Int.reduceNeg, Int.reduceBEq, Int.reduceBNe, Nat.reduceMul, Int.reduceAdd, Int.reduceMul, Int.reduceSub, Int.reduceEq, Int.reduceNe]
    have fin0 : goesOut s (leastB w x c) = false → o 2 = o 1 := fun hb => by rw [h1, hb]; simp [flagL]
    have fin1 : goesOut s (leastB w x c) = true → o 2 = o 1 ++ [2] := fun hb => by rw [h1, hb]; rfl
    cases hb : goesOut s (leastB w x c)
    · simp (config := { maxSteps := 400000 }) only [go_sem, ↓reduceIte, reduceCtorEq, Nat.reduceEqDiff, Nat.reduceAdd, Nat.reduceLT, Nat.reduceLeDiff, Nat.reduceSub, Int.reduceToNat, Int.reduceLE, Int.reduceLT, Int.reduceNeg, Int.reduceBEq, Int.reduceBNe, Nat.reduceMul, Int.reduceAdd, Int.reduceMul, Int.reduceSub, Int.reduceEq, Int.reduceNe]
      refine WF_pure (cHas _ 2 false lb) rfl ?_
      simp (config := { maxSteps := 400000 }) only [q2, go_sem, ↓reduceIte, reduceCtorEq, Nat.reduceEqDiff, Nat.reduceAdd, Nat.reduceLT, Nat.reduceLeDiff, Nat.reduceSub, Int.reduceToNat, Int.reduceLE, Int.reduceLT, Int.reduceNeg, Int.reduceBEq, Int.reduceBNe, Nat.reduceMul, Int.reduceAdd, Int.reduceMul, Int.reduceSub, Int.reduceEq, Int.reduceNe]
      cases hb2 : goesOut s (mostB w x c)
      · simp (config := { maxSteps := 400000 }) only [go_sem, ↓reduceIte, reduceCtorEq, Nat.reduceEqDiff, Nat.reduceAdd, Nat.reduceLT, Nat.reduceLeDiff, Nat.reduceSub, Int.reduceToNat, Int.reduceLE, Int.reduceLT, Int.reduceNeg, Int.reduceBEq, Int.reduceBNe, Nat.reduceMul, Int.reduceAdd, Int.reduceMul, Int.reduceSub, Int.reduceEq, Int.reduceNe]
        refine WQ_headA 2 (by omega) (by omega) ?_
        simp (config := { maxSteps := 400000 }) only [fin0 (by rw [← m2, hb, hb2]; rfl), go_sem, ↓reduceIte, reduceCtorEq, Nat.reduceEqDiff, Nat.reduceAdd, Nat.reduceLT, Nat.reduceLeDiff, Nat.reduceSub, Int.reduceToNat, Int.reduceLE, Int.reduceLT, Int.reduceNeg, Int.reduceBEq, Int.reduceBNe, Nat.reduceMul, Int.reduceAdd, Int.reduceMul, Int.reduceSub, Int.reduceEq, Int.reduceNe]
      · simp (config := { maxSteps := 400000 }) only [hl, go_sem, ↓reduceIte, reduceCtorEq, Nat.reduceEqDiff, Nat.reduceAdd, Nat.reduceLT, Nat.reduceLeDiff, Nat.reduceSub, Int.reduceToNat, Int.reduceLE, Int.reduceLT, Int.reduceNeg, Int.reduceBEq, Int.reduceBNe, Nat.reduceMul, Int.reduceAdd, Int.reduceMul, Int.reduceSub, Int.reduceEq, Int.reduceNe]
        refine WQ_headA 2 (by omega) (by omega) ?_
        simp (config := { maxSteps := 400000 }) only [fin1 (by rw [← m2, hb, hb2]; rfl), List.length_append, List.map_append, go_sem, ↓reduceIte, reduceCtorEq, Nat.reduceEqDiff, Nat.reduceAdd, Nat.reduceLT, Nat.reduceLeDiff, Nat.reduceSub, Int.reduceToNat, Int.reduceLE, Int.reduceLT, Int.reduceNeg, Int.reduceBEq, Int.reduceBNe, Nat.reduceMul, Int.reduceAdd, Int.reduceMul, Int.reduceSub, Int.reduceEq, Int.reduceNe]
    · simp (config := { maxSteps := 400000 }) only [hl, go_sem, ↓reduceIte, reduceCtorEq, Nat.reduceEqDiff, Nat.reduceAdd, Nat.reduceLT, Nat.reduceLeDiff, Nat.reduceSub, Int.reduceToNat, Int.reduceLE, Int.reduceLT, Int.reduceNeg, Int.reduceBEq, Int.reduceBNe, Nat.reduceMul, Int.reduceAdd, Int.reduceMul, Int.reduceSub, Int.reduceEq, Int.reduceNe]
      refine WQ_headA 2 (by omega) (by omega) ?_
      simp (config := { maxSteps := 400000 }) only [fin1 (by rw [← m2, hb]; rfl), List.length_append, List.map_append, go_sem, ↓reduceIte, reduceCtorEq, Nat.reduceEqDiff, Nat.reduceAdd, Nat.reduceLT, Nat.reduceLeDiff, Nat.reduceSub, Int.reduceToNat, Int.reduceLE, Int.reduceLT, Int.reduceNeg, Int.reduceBEq, Int.reduceBNe, Nat.reduceMul, Int.reduceAdd, Int.reduceMul, Int.reduceSub, Int.reduceEq, Int.reduceNe]
  · have hl := hlen 2
    have h1 : o 3 = o 2 ++ flagL (tunnels s c.diameter (leastB w x c)) 3 := by rw [← ho]; simp [outs]
    simp (config := { maxSteps := 400000 }) only [go_sem, ↓reduceIte, reduceCtorEq, Nat.reduceEqDiff, Nat.reduceAdd, Nat.reduceLT, Nat.reduceLeDiff, Nat.reduceSub, Int.reduceToNat, Int.reduceLE, Int.reduceLT, Int.reduceNeg, Int.reduceBEq, Int.reduceBNe, Nat.reduceMul, Int.reduceAdd, Int.reduceMul, Int.reduceSub, Int.reduceEq, Int.reduceNe]
    refine WF_pure (cHas _ 3 false la) rfl ?_
    simp (config := { maxSteps := 400000 }) only [p3, go_sem, ↓reduceIte, reduceCtorEq, Nat.reduceEqDiff, Nat.reduceAdd, Nat.reduceLT, Nat.reduceLeDiff, Nat.reduceSub, Int.reduceToNat, Int.reduceLE, Int.reduceLT, Int.reduceNeg, Int.reduceBEq, Int.reduceBNe, Nat.reduceMul, Int.reduceAdd, Int.reduceMul, Int.reduceSub, Int.reduceEq, Int.reduceNe]
    have fin0 : tunnels s c.diameter (leastB w x c) = false → o 3 = o 2 := fun hb => by rw [h1, hb]; simp [flagL]
    have fin1 : tunnels s c.diameter (leastB w x c) = true → o 3 = o 2 ++ [3] := fun hb => by rw [h1, hb]; rfl
    cases hb : tunnels s c.diameter (leastB w x c)
    · simp (config := { maxSteps := 400000 }) only [go_sem, ↓reduceIte, reduceCtorEq, Nat.reduceEqDiff, Nat.reduceAdd, Nat.reduceLT, Nat.reduceLeDiff, Nat.reduceSub, Int.reduceToNat, Int.reduceLE, Int.reduceLT, Int.reduceNeg, Int.reduceBEq, Int.reduceBNe, Nat.reduceMul, Int.reduceAdd, Int.reduceMul, Int.reduceSub, Int.reduceEq, Int.reduceNe]
      refine WF_pure (cHas _ 3 false lb) rfl ?_
      simp (config := { maxSteps := 400000 }) only [q3, go_sem, ↓reduceIte, reduceCtorEq, Nat.reduceEqDiff, Nat.reduceAdd, Nat.reduceLT, Nat.reduceLeDiff, Nat.reduceSub, Int.reduceToNat, Int.reduceLE, Int.reduceLT, Int.reduceNeg, Int.reduceBEq, Int.reduceBNe, Nat.reduceMul, Int.reduceAdd, Int.reduceMul, Int.reduceSub, Int.reduceEq, Int.reduceNe]
      cases hb2 : tunnels s c.diameter (mostB w x c)
      · simp (config := { maxSteps := 400000 }) only [go_sem, ↓reduceIte, reduceCtorEq, Nat.reduceEqDiff, Nat.reduceAdd, Nat.reduceLT, Nat.reduceLeDiff, Nat.reduceSub, Int.reduceToNat, Int.reduceLE, Int.reduceLT, Int.reduceNeg, Int.reduceBEq, Int.reduceBNe, Nat.reduceMul, Int.reduceAdd, Int.reduceMul, Int.reduceSub, Int.reduceEq, Int.reduceNe]
        refine WQ_headA 3 (by omega) (by omega) ?_
        simp (config := { maxSteps := 400000 }) only [fin0 (by rw [← m3, hb, hb2]; rfl), go_sem, ↓reduceIte, reduceCtorEq, Nat.reduceEqDiff, Nat.reduceAdd, Nat.reduceLT, Nat.reduceLeDiff, Nat.reduceSub, Int.reduceToNat, Int.reduceLE, Int.reduceLT, Int.reduceNeg, Int.reduceBEq, Int.reduceBNe, Nat.reduceMul, Int.reduceAdd, Int.reduceMul, Int.reduceSub, Int.reduceEq, Int.reduceNe]
      · simp (config := { maxSteps := 400000 }) only [hl, go_sem, ↓reduceIte, reduceCtorEq, Nat.reduceEqDiff, Nat.reduceAdd, Nat.reduceLT, Nat.reduceLeDiff, Nat.reduceSub, Int.reduceToNat, Int.reduceLE, Int.reduceLT, Int.reduceNeg, Int.reduceBEq, Int.reduceBNe, Nat.reduceMul, Int.reduceAdd, Int.reduceMul, Int.reduceSub, Int.reduceEq, Int.reduceNe]
        refine WQ_headA 3 (by omega) (by omega) ?_
        simp (config := { maxSteps := 400000 }) only [fin1 (by rw [← m3, hb, hb2]; rfl), List.length_append, List.map_append, go_sem, ↓reduceIte, reduceCtorEq, Nat.reduceEqDiff, Nat.reduceAdd, Nat.reduceLT, Nat.reduceLeDiff, Nat.reduceSub, Int.reduceToNat, Int.reduceLE, Int.reduceLT, Int.reduceNeg, Int.reduceBEq, Int.reduceBNe, Nat.reduceMul, Int.reduceAdd, Int.reduceMul, Int.reduceSub, Int.reduceEq, Int.reduceNe]
    · simp (config := { maxSteps := 400000 }) only [hl, go_sem, ↓reduceIte, reduceCtorEq, Nat.reduceEqDiff, Nat.reduceAdd, Nat.reduceLT, Nat.reduceLeDiff, Nat.reduceSub, Int.reduceToNat, Int.reduceLE, Int.reduceLT, Int.reduceNeg, Int.reduceBEq, Int.reduceBNe, Nat.reduceMul, Int.reduceAdd, Int.reduceMul, Int.reduceSub, Int.reduceEq, Int.reduceNe]
      refine WQ_headA 3 (by omega) (by omega) ?_
      simp (config := { maxSteps := 400000 }) only [fin1 (by rw [← m3, hb]; rfl), List.length_append, List.map_append, go_sem, ↓reduceIte, reduceCtorEq, Nat.reduceEqDiff, Nat.reduceAdd, Nat.reduceLT, Nat.reduceLeDiff, Nat.reduceSub, Int.reduceToNat, Int.reduceLE, Int.reduceLT, Int.reduceNeg, Int.reduceBEq, Int.reduceBNe, Nat.reduceMul, Int.reduceAdd, Int.reduceMul, Int.reduceSub, Int.reduceEq, Int.reduceNe]
  · have hl := hlen 3
    have h1 : o 4 = o 3 ++ flagL (runsOver s c.diameter (mostB w x c)) 4 := by rw [← ho]; simp [outs]
    simp (config := { maxSteps := 400000 }) only [go_sem, ↓reduceIte, reduceCtorEq, Nat.reduceEqDiff, Nat.reduceAdd, Nat.reduceLT, Nat.reduceLeDiff, Nat.reduceSub, Int.reduceToNat, Int.reduceLE, Int.reduceLT, Int.reduceNeg, Int.reduceBEq, Int.reduceBNe, Nat.reduceMul, Int.reduceAdd, Int.reduceMul, Int.reduceSub, Int.reduceEq, Int.reduceNe]
    refine WF_pure (cHas _ 4 false la) rfl ?_
    simp (config := { maxSteps := 400000 }) only [p4, go_sem, ↓reduceIte, reduceCtorEq, Nat.reduceEqDiff, Nat.reduceAdd, Nat.reduceLT, Nat.reduceLeDiff, Nat.reduceSub, Int.reduceToNat, Int.reduceLE, Int.reduceLT, Int.reduceNeg, Int.reduceBEq, Int.reduceBNe, Nat.reduceMul, Int.reduceAdd, Int.reduceMul, Int.reduceSub, Int.reduceEq, Int.reduceNe]
    have fin0 : runsOver s c.diameter (mostB w x c) = false → o 4 = o 3 := fun hb => by rw [h1, hb]; simp [flagL]
    have fin1 : runsOver s c.diameter (mostB w x c) = true → o 4 = o 3 ++ [4] := fun hb => by rw [h1, hb]; rfl
    cases hb : runsOver s c.diameter (leastB w x c)
    · simp (config := { maxSteps := 400000 }) only [go_sem, ↓reduceIte, reduceCtorEq, Nat.reduceEqDiff, Nat.reduceAdd, Nat.reduceLT, Nat.reduceLeDiff, Nat.reduceSub, Int.reduceToNat, Int.reduceLE, Int.reduceLT, Int.reduceNeg, Int.reduceBEq, Int.reduceBNe, Nat.reduceMul, Int.reduceAdd, Int.reduceMul, Int.reduceSub, Int.reduceEq, Int.reduceNe]
      refine WF_pure (cHas _ 4 false lb) rfl ?_
      simp (config := { maxSteps := 400000 }) only [q4, go_sem, ↓reduceIte, reduceCtorEq, Nat.reduceEqDiff, Nat.reduceAdd, Nat.reduceLT, Nat.reduceLeDiff, Nat.reduceSub, Int.reduceToNat, Int.reduceLE, Int.reduceLT, Int.reduceNeg, Int.reduceBEq, Int.reduceBNe, Nat.reduceMul, Int.reduceAdd, Int.reduceMul, Int.reduceSub, Int.reduceEq, Int.reduceNe]
      cases hb2 : runsOver s c.diameter (mostB w x c)
      · simp (config := { maxSteps := 400000 }) only [go_sem, ↓reduceIte, reduceCtorEq, Nat.reduceEqDiff, Nat.reduceAdd, Nat.reduceLT, Nat.reduceLeDiff, Nat.reduceSub, Int.reduceToNat, Int.reduceLE, Int.reduceLT, Int.reduceNeg, Int.reduceBEq, Int.reduceBNe, Nat.reduceMul, Int.reduceAdd, Int.reduceMul, Int.reduceSub, Int.reduceEq, Int.reduceNe]
        refine WQ_headA 4 (by omega) (by omega) ?_
        simp (config := { maxSteps := 400000 }) only [fin0 (by rw [← m4, hb, hb2]; rfl), go_sem, ↓reduceIte, reduceCtorEq, Nat.reduceEqDiff, Nat.reduceAdd, Nat.reduceLT, Nat.reduceLeDiff, Nat.reduceSub, Int.reduceToNat, Int.reduceLE, Int.reduceLT, Int.reduceNeg, Int.reduceBEq, Int.reduceBNe, Nat.reduceMul, Int.reduceAdd, Int.reduceMul, Int.reduceSub, Int.reduceEq, Int.reduceNe]
      · simp (config := { maxSteps := 400000 }) only [hl, go_sem, ↓reduceIte, reduceCtorEq, Nat.reduceEqDiff, Nat.reduceAdd, Nat.reduceLT, Nat.reduceLeDiff, Nat.reduceSub, Int.reduceToNat, Int.reduceLE, Int.reduceLT, Int.reduceNeg, Int.reduceBEq, Int.reduceBNe, Nat.reduceMul, Int.reduceAdd, Int.reduceMul, Int.reduceSub, Int.reduceEq, Int.reduceNe]
        refine WQ_headA 4 (by omega) (by omega) ?_
        simp (config := { maxSteps := 400000 }) only [fin1 (by rw [← m4, hb, hb2]; rfl), List.length_append, List.map_append, go_sem, ↓reduceIte, reduceCtorEq, Nat.reduceEqDiff, Nat.reduceAdd, Nat.reduceLT, Nat.reduceLeDiff, Nat.reduceSub, Int.reduceToNat, Int.reduceLE, Int.reduceLT, Int.reduceNeg, Int.reduceBEq, Int.reduceBNe, Nat.reduceMul, Int.reduceAdd, Int.reduceMul, Int.reduceSub, Int.reduceEq, Int.reduceNe]
    · simp (config := { maxSteps := 400000 }) only [hl, go_sem, ↓reduceIte, reduceCtorEq, Nat.reduceEqDiff, Nat.reduceAdd, Nat.reduceLT, Nat.reduceLeDiff, Nat.reduceSub, Int.reduceToNat, Int.reduceLE, Int.reduceLT, Int.reduceNeg, Int.reduceBEq, Int.reduceBNe, Nat.reduceMul, Int.reduceAdd, Int.reduceMul, Int.reduceSub, Int.reduceEq, Int.reduceNe]
      refine WQ_headA 4 (by omega) (by omega) ?_
      simp (config := { maxSteps := 400000 }) only [fin1 (by rw [← m4, hb]; rfl), List.length_append, List.map_append, go_sem, ↓reduceIte, reduceCtorEq, Nat.reduceEqDiff, Nat.reduceAdd, Nat.reduceLT, Nat.reduceLeDiff, Nat.reduceSub, Int.reduceToNat, Int.reduceLE, Int.reduceLT, Int.reduceNeg, Int.reduceBEq, Int.reduceBNe, Nat.reduceMul, Int.reduceAdd, Int.reduceMul, Int.reduceSub, Int.reduceEq, Int.reduceNe]
  · have h4 : o 4 = faultsOf s c.diameter (leastB w x c) (mostB w x c) := by rw [← ho]; exact outs_end _ _ _ _
    simp (config := { maxSteps := 400000 }) only [h4, intsPV, go_sem, ↓reduceIte, reduceCtorEq, Nat.reduceEqDiff, Nat.reduceAdd, Nat.reduceLT, Nat.reduceLeDiff, Nat.reduceSub, Int.reduceToNat, Int.reduceLE, Int.reduceLT, Int.reduceNeg, Int.reduceBEq, Int.reduceBNe, Nat.reduceMul, Int.reduceAdd, Int.reduceMul, Int.reduceSub, Int.reduceEq, Int.reduceNe]
    exact .inl (.inl rfl)

def faultsSpec (s : Shop) (k : Int) (c : Candle) (w : Wick) (x : Wax) : List Int × Int :=
  if askErr s [k] c = 0 then (faultsOf s c.diameter (leastB w x c) (mostB w x c), 0) else ([], askErr s [k] c)
theorem cWickFaults (s : Shop) (k : Int) (c : Candle) (w : Wick) (x : Wax) (h : askErr s [k] c = 0 → Site s c x ∧ SiteK s k w) :
    PCall Try.prog 23 [s.pv, .int .i64 k, c.pv] (.tuple [intsPV (faultsSpec s k c w x).1, .int .i64 (faultsSpec s k c w x).2]) := by
  refine pcall_of_wp_frzN draws (fn := Try.f23) (n := 24) (rs := [.tmp 6, .tmp 7]) (by kernel_rfl) rfl rfl rfl ok23 (Nat.le_of_ble_eq_true rfl) ?_
  simp (config := { maxSteps := 400000 }) only [go_sem, ↓reduceIte, reduceCtorEq, Nat.reduceEqDiff, Nat.reduceAdd, Nat.reduceLT, Nat.reduceLeDiff, Nat.reduceSub, Int.reduceToNat, Int.reduceLE, Int.reduceLT, Int.reduceNeg, Int.reduceBEq, Int.reduceBNe, Nat.reduceMul, Int.reduceAdd, Int.reduceMul, Int.reduceSub, Int.reduceEq, Int.reduceNe]
  refine WF_pure (cOpen s c [k] true _ rfl (by simp) x (fun h0 => (h h0).1.hx)) rfl ?_
  simp (config := { maxSteps := 400000 }) only [go_sem, ↓reduceIte, reduceCtorEq, Nat.reduceEqDiff, Nat.reduceAdd, Nat.reduceLT, Nat.reduceLeDiff, Nat.reduceSub, Int.reduceToNat, Int.reduceLE, Int.reduceLT, Int.reduceNeg, Int.reduceBEq, Int.reduceBNe, Nat.reduceMul, Int.reduceAdd, Int.reduceMul, Int.reduceSub, Int.reduceEq, Int.reduceNe]
  cases h0 : (askErr s [k] c != 0)
  rotate_left
  · have h0' : ¬ askErr s [k] c = 0 := by simpa using h0
    simp (config := { maxSteps := 400000 }) only [faultsSpec, if_neg h0', intsPV, go_sem, ↓reduceIte, reduceCtorEq, Nat.reduceEqDiff, Nat.reduceAdd, Nat.reduceLT, Nat.reduceLeDiff, Nat.reduceSub, Int.reduceToNat, Int.reduceLE, Int.reduceLT, Int.reduceNeg, Int.reduceBEq, Int.reduceBNe, Nat.reduceMul, Int.reduceAdd, Int.reduceMul, Int.reduceSub, Int.reduceEq, Int.reduceNe]
    exact .inr ⟨_, _, rfl, rfl, .inr ⟨rfl, 1, rfl⟩, .inl rfl, trivial⟩
  have h0' : askErr s [k] c = 0 := by simpa using h0
  obtain ⟨hs, hk⟩ := h h0'
  simp (config := { maxSteps := 400000 }) only [if_pos h0', go_sem, ↓reduceIte, reduceCtorEq, Nat.reduceEqDiff, Nat.reduceAdd, Nat.reduceLT, Nat.reduceLeDiff, Nat.reduceSub, Int.reduceToNat, Int.reduceLE, Int.reduceLT, Int.reduceNeg, Int.reduceBEq, Int.reduceBNe, Nat.reduceMul, Int.reduceAdd, Int.reduceMul, Int.reduceSub, Int.reduceEq, Int.reduceNe]
  refine WF_pure (cFaultsIn s c x k w hs hk) rfl ?_
  simp (config := { maxSteps := 400000 }) only [faultsSpec, if_pos h0', intsPV, go_sem, ↓reduceIte, reduceCtorEq, Nat.reduceEqDiff, Nat.reduceAdd, Nat.reduceLT, Nat.reduceLeDiff, Nat.reduceSub, Int.reduceToNat, Int.reduceLE, Int.reduceLT, Int.reduceNeg, Int.reduceBEq, Int.reduceBNe, Nat.reduceMul, Int.reduceAdd, Int.reduceMul, Int.reduceSub, Int.reduceEq, Int.reduceNe]
theorem cRefFaults (s : Shop) (k : Int) (c : Candle) (w : Wick) (x : Wax) (h : askErr s [k] c = 0 → Site s c x ∧ SiteK s k w) :
    PCall Try.prog 24 [s.pv, .int .i64 k, c.pv] (.tuple [intsPV (faultsSpec s k c w x).1, .int .i64 (faultsSpec s k c w x).2]) := by
  refine pcall_of_wp_frzN draws (fn := Try.f24) (n := 20) (rs := [.tmp 6, .tmp 7]) (by kernel_rfl) rfl rfl rfl ok24 (Nat.le_of_ble_eq_true rfl) ?_
  simp (config := { maxSteps := 400000 }) only [go_sem, ↓reduceIte, reduceCtorEq, Nat.reduceEqDiff, Nat.reduceAdd, Nat.reduceLT, Nat.reduceLeDiff, Nat.reduceSub, Int.reduceToNat, Int.reduceLE, Int.reduceLT, Int.reduceNeg, Int.reduceBEq, Int.reduceBNe, Nat.reduceMul, Int.reduceAdd, Int.reduceMul, Int.reduceSub, Int.reduceEq, Int.reduceNe]
  refine WF_pure (cRefAsked s k c) rfl ?_
  simp (config := { maxSteps := 400000 }) only [go_sem, ↓reduceIte, reduceCtorEq, Nat.reduceEqDiff, Nat.reduceAdd, Nat.reduceLT, Nat.reduceLeDiff, Nat.reduceSub, Int.reduceToNat, Int.reduceLE, Int.reduceLT, Int.reduceNeg, Int.reduceBEq, Int.reduceBNe, Nat.reduceMul, Int.reduceAdd, Int.reduceMul, Int.reduceSub, Int.reduceEq, Int.reduceNe]
  cases h0 : (askErr s [k] c != 0)
  rotate_left
  · have h0' : ¬ askErr s [k] c = 0 := by simpa using h0
    simp (config := { maxSteps := 400000 }) only [faultsSpec, if_neg h0', intsPV, go_sem, ↓reduceIte, reduceCtorEq, Nat.reduceEqDiff, Nat.reduceAdd, Nat.reduceLT, Nat.reduceLeDiff, Nat.reduceSub, Int.reduceToNat, Int.reduceLE, Int.reduceLT, Int.reduceNeg, Int.reduceBEq, Int.reduceBNe, Nat.reduceMul, Int.reduceAdd, Int.reduceMul, Int.reduceSub, Int.reduceEq, Int.reduceNe]
    exact .inr ⟨_, _, rfl, rfl, .inr ⟨rfl, 1, rfl⟩, .inl rfl, trivial⟩
  have h0' : askErr s [k] c = 0 := by simpa using h0
  obtain ⟨hs, hk⟩ := h h0'
  simp (config := { maxSteps := 400000 }) only [go_sem, ↓reduceIte, reduceCtorEq, Nat.reduceEqDiff, Nat.reduceAdd, Nat.reduceLT, Nat.reduceLeDiff, Nat.reduceSub, Int.reduceToNat, Int.reduceLE, Int.reduceLT, Int.reduceNeg, Int.reduceBEq, Int.reduceBNe, Nat.reduceMul, Int.reduceAdd, Int.reduceMul, Int.reduceSub, Int.reduceEq, Int.reduceNe]
  refine WF_pure (cListed s c x k w hs hk) rfl ?_
  simp (config := { maxSteps := 400000 }) only [faultsSpec, if_pos h0', intsPV, go_sem, ↓reduceIte, reduceCtorEq, Nat.reduceEqDiff, Nat.reduceAdd, Nat.reduceLT, Nat.reduceLeDiff, Nat.reduceSub, Int.reduceToNat, Int.reduceLE, Int.reduceLT, Int.reduceNeg, Int.reduceBEq, Int.reduceBNe, Nat.reduceMul, Int.reduceAdd, Int.reduceMul, Int.reduceSub, Int.reduceEq, Int.reduceNe]

end Abs
end Go.Proofs.Ytdgmmijimclooaa
