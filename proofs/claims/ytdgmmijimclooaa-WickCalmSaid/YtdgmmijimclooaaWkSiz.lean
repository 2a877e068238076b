/-
  CONTRACTS: the diameters for which a wick suits.
-/
import Derived.Test.YtdgmmijimclooaaWkSut
namespace Go.Proofs.Ytdgmmijimclooaa
namespace Abs
set_option linter.unusedSimpArgs false
set_option maxRecDepth 4000

def szHi (s : Shop) (l m : Burn) : Int :=
  if m.pool ≤ 0 ∨ s.pool.hi ≠ 0 then (if l.pool < 0 then 0 else if 0 < s.pool.lo then (if l.pool.tdiv (s.pool.lo * 1000) < 2000 then l.pool.tdiv (s.pool.lo * 1000) else 2000) else 2000) else 0
def szLo (s : Shop) (m : Burn) : Int :=
  if m.pool ≤ 0 ∨ s.pool.hi = 0 then 1 else (if 1 < (m.pool + s.pool.hi * 1000 - 1).tdiv (s.pool.hi * 1000) then (m.pool + s.pool.hi * 1000 - 1).tdiv (s.pool.hi * 1000) else 1)
def szBad (s : Shop) (l m : Burn) : Bool := goesOut s l || smokes s m
theorem tdiv_pos {a b : Int} (ha : 0 ≤ a) : a.tdiv b = a / b := Int.tdiv_eq_ediv_of_nonneg ha
theorem sz_iff {s : Shop} (so : ShopOk s) {l m : Burn} {d : Int} (hd : 1 ≤ d ∧ d ≤ 2000) : ((faultsOf s d l m).length == 0) = (!szBad s l m && (decide (szLo s m ≤ d) && decide (d ≤ szHi s l m))) := by
  have e1 : ((faultsOf s d l m).length == 0) = !(smokes s m || (goesOut s l || (tunnels s d l || runsOver s d m))) := by
    unfold faultsOf flagL
    cases smokes s m <;> cases goesOut s l <;> cases tunnels s d l <;> cases runsOver s d m <;> rfl
  have hpo := so.po
  have e2 : (!tunnels s d l && !runsOver s d m) = (decide (szLo s m ≤ d) && decide (d ≤ szHi s l m)) := by
    have t1 : (!tunnels s d l) = decide (s.pool.lo * d * 1000 ≤ l.pool) := by unfold tunnels; rw [← decide_not]; congr 1; simp
    have t2 : (!runsOver s d m) = decide (m.pool ≤ s.pool.hi * d * 1000) := by unfold runsOver; rw [← decide_not]; congr 1; simp
    rw [t1, t2, Bool.eq_iff_iff]
    simp only [Bool.and_eq_true, decide_eq_true_eq]
    have p0 : 0 ≤ s.pool.lo * d := Int.mul_nonneg (by omega) (by omega)
    have p1 : 0 ≤ s.pool.hi * d := Int.mul_nonneg (by omega) (by omega)
    -- the upper end
    have a1 : (s.pool.lo * d * 1000 ≤ l.pool) ↔ (d ≤ (if l.pool < 0 then 0 else if 0 < s.pool.lo then (if l.pool.tdiv (s.pool.lo * 1000) < 2000 then l.pool.tdiv (s.pool.lo * 1000) else 2000) else 2000)) := by
      split
      · constructor <;> intro h <;> omega
      · split
        · rename_i h0 h1
          have hq : d ≤ l.pool.tdiv (s.pool.lo * 1000) ↔ d * (s.pool.lo * 1000) ≤ l.pool := by
            rw [tdiv_pos (by omega)]
            exact Int.le_ediv_iff_mul_le (by omega)
          have hm : d * (s.pool.lo * 1000) = s.pool.lo * d * 1000 := by rw [← Int.mul_assoc, Int.mul_comm d]
          rw [hm] at hq
          split
          · exact hq.symm
          · constructor
            · intro _; omega
            · intro _; exact hq.1 (by omega)
        · have : s.pool.lo = 0 := by omega
          rw [this]
          simp; omega
    -- the lower end
    have a2 : (m.pool ≤ s.pool.hi * d * 1000) ↔ (m.pool ≤ 0 ∨ s.pool.hi ≠ 0) ∧ szLo s m ≤ d := by
      unfold szLo
      split
      · rename_i h
        rcases h with h | h
        · constructor
          · intro _; exact ⟨.inl h, hd.1⟩
          · intro _; omega
        · rw [h]; simp; omega
      · rename_i h
        have h1 : 0 < m.pool ∧ s.pool.hi ≠ 0 := by constructor <;> omega
        have hq : (m.pool + s.pool.hi * 1000 - 1).tdiv (s.pool.hi * 1000) ≤ d ↔ m.pool + s.pool.hi * 1000 - 1 < (d + 1) * (s.pool.hi * 1000) := by
          rw [tdiv_pos (by omega)]
          rw [← Int.ediv_lt_iff_lt_mul (by omega)]
          omega
        have hm : (d + 1) * (s.pool.hi * 1000) = s.pool.hi * d * 1000 + s.pool.hi * 1000 := by rw [Int.add_mul, Int.one_mul, ← Int.mul_assoc, Int.mul_comm d]
        rw [hm] at hq
        split
        · rw [hq]; constructor
          · intro _; exact ⟨.inr h1.2, by omega⟩
          · intro _; omega
        · constructor
          · intro _; exact ⟨.inr h1.2, hd.1⟩
          · intro _
            have := hq.1 (by omega)
            omega
    rw [a1, a2]
    unfold szHi
    by_cases h : m.pool ≤ 0 ∨ s.pool.hi ≠ 0
    · rw [if_pos h]
      constructor
      · rintro ⟨h1, h2, h3⟩; exact ⟨h3, h1⟩
      · rintro ⟨h1, h2⟩; exact ⟨h2, h, h1⟩
    · rw [if_neg h]
      constructor
      · rintro ⟨_, h2, _⟩; exact absurd h2 h
      · rintro ⟨_, h2⟩; omega
  rw [e1, ← e2]
  unfold szBad
  cases smokes s m <;> cases goesOut s l <;> cases tunnels s d l <;> cases runsOver s d m <;> rfl
theorem szLo_pos (s : Shop) (m : Burn) : 1 ≤ szLo s m := by unfold szLo; split <;> (try split) <;> omega
theorem szHi_le (s : Shop) (l m : Burn) : szHi s l m ≤ 2000 := by unfold szHi; split <;> (try split) <;> (try split) <;> (try split) <;> omega

def szSpan (s : Shop) (l m : Burn) : Span × Int := if (decide (szHi s l m < szLo s m) || szBad s l m) = true then (⟨0, 0⟩, 9) else (⟨szLo s m, szHi s l m⟩, 0)
def sizesSpec (s : Shop) (k : Int) (c : Candle) (w : Wick) (x : Wax) : Span × Int := if askErr s [k] c = 0 then szSpan s (leastB w x c) (mostB w x c) else (⟨0, 0⟩, askErr s [k] c)

/-- what has been found below a diameter -/
def szAt (s : Shop) (l m : Burn) (d : Int) : Span := if szBad s l m = false ∧ szLo s m ≤ szHi s l m ∧ szLo s m ≤ d then ⟨szLo s m, if d < szHi s l m then d else szHi s l m⟩ else ⟨0, 0⟩
theorem szAt_end (s : Shop) (l m : Burn) : szAt s l m 2000 = (szSpan s l m).1 := by
  have := szHi_le s l m
  unfold szAt szSpan
  cases szBad s l m
  · by_cases h : szHi s l m < szLo s m
    · rw [if_neg (by rintro ⟨_, h2, _⟩; omega), if_pos (by simp [h])]
    · rw [if_pos ⟨rfl, by omega, by omega⟩, if_neg (show ¬ (2000 : Int) < szHi s l m by omega), if_neg (by simp; omega)]
  · simp

theorem cRefSizes (s : Shop) (k : Int) (c : Candle) (w : Wick) (x : Wax) (h : askErr s [k] c = 0 → Site s c x ∧ SiteK s k w) :
    PCall Try.prog 31 [s.pv, .int .i64 k, c.pv] (.tuple [(sizesSpec s k c w x).1.pv, .int .i64 (sizesSpec s k c w x).2]) := by
  refine pcall_of_wp draws (fn := Try.f31) (n := 43) (rs := [.cell 6 25, .tmp 7]) (by kernel_rfl) rfl rfl rfl ok31 (Nat.le_of_ble_eq_true rfl) ?_
  simp (config := { maxSteps := 400000 }) only [go_sem, ↓reduceIte, reduceCtorEq, Nat.reduceEqDiff, Nat.reduceAdd, Nat.reduceLT, Nat.reduceLeDiff, Nat.reduceSub, Int.reduceToNat, Int.reduceLE, Int.reduceLT, Int.reduceNeg, Int.reduceBEq, Int.reduceBNe, Nat.reduceMul, Int.reduceAdd, Int.reduceMul, Int.reduceSub, Int.reduceEq, Int.reduceNe]
  refine WF_pure (cRefAsked s k c) rfl ?_
  simp (config := { maxSteps := 400000 }) only [go_sem, ↓reduceIte, reduceCtorEq, Nat.reduceEqDiff, Nat.reduceAdd, Nat.reduceLT, Nat.reduceLeDiff, Nat.reduceSub, Int.reduceToNat, Int.reduceLE, Int.reduceLT, Int.reduceNeg, Int.reduceBEq, Int.reduceBNe, Nat.reduceMul, Int.reduceAdd, Int.reduceMul, Int.reduceSub, Int.reduceEq, Int.reduceNe]
  cases h0 : (askErr s [k] c != 0)
  rotate_left
  · have h0' : ¬ askErr s [k] c = 0 := by simpa using h0
    simp (config := { maxSteps := 400000 }) only [sizesSpec, if_neg h0', go_sem, ↓reduceIte, reduceCtorEq, Nat.reduceEqDiff, Nat.reduceAdd, Nat.reduceLT, Nat.reduceLeDiff, Nat.reduceSub, Int.reduceToNat, Int.reduceLE, Int.reduceLT, Int.reduceNeg, Int.reduceBEq, Int.reduceBNe, Nat.reduceMul, Int.reduceAdd, Int.reduceMul, Int.reduceSub, Int.reduceEq, Int.reduceNe]
  have h0' : askErr s [k] c = 0 := by simpa using h0
  obtain ⟨hs, hk⟩ := h h0'
  have hsp : sizesSpec s k c w x = szSpan s (leastB w x c) (mostB w x c) := by rw [sizesSpec, if_pos h0']
  rw [hsp]
  simp (config := { maxSteps := 400000 }) only [go_sem, ↓reduceIte, reduceCtorEq, Nat.reduceEqDiff, Nat.reduceAdd, Nat.reduceLT, Nat.reduceLeDiff, Nat.reduceSub, Int.reduceToNat, Int.reduceLE, Int.reduceLT, Int.reduceNeg, Int.reduceBEq, Int.reduceBNe, Nat.reduceMul, Int.reduceAdd, Int.reduceMul, Int.reduceSub, Int.reduceEq, Int.reduceNe]
  generalize hL : leastB w x c = l
  generalize hM : mostB w x c = m
  have hlo := szLo_pos s m
  have hhi := szHi_le s l m
  refine W_loopS [1, 3, 5, 6, 9] (σ := Int × Int) (fun q => 1 ≤ q.1 ∧ q.1 ≤ 2001) (fun q => (2001 - q.1).toNat) (fun q => [(10, .p (.int .i64 q.1))])
    (fun q h => (h.set 1 (.row 5 [.p ({ c with diameter := q.2 } : Candle).pv])).set 3 (.row 2 [.p (szAt s l m (q.1 - 1)).pv])) (1, c.diameter) ⟨by omega, by omega⟩ ?_ ?_
  · have e0 : szAt s l m 0 = ⟨0, 0⟩ := by unfold szAt; rw [if_neg (by omega)]
    simp (config := { maxSteps := 400000 }) only [e0, go_sem, ↓reduceIte, reduceCtorEq, Nat.reduceEqDiff, Nat.reduceAdd, Nat.reduceLT, Nat.reduceLeDiff, Nat.reduceSub, Int.reduceToNat, Int.reduceLE, Int.reduceLT, Int.reduceNeg, Int.reduceBEq, Int.reduceBNe, Nat.reduceMul, Int.reduceAdd, Int.reduceMul, Int.reduceSub, Int.reduceEq, Int.reduceNe]
  rintro ⟨d, dd⟩ ⟨h1, h2⟩
  dsimp only at h1 h2
  by_cases hd : d ≤ 2000
  · have hnx : IntKind.i64.wrap (d + 1) = d + 1 := wrap_in (by omega) (by omega)
    have hs' : Site s { c with diameter := d } x := ⟨hs.so, ⟨⟨h1, hd⟩, hs.co.g, hs.co.c⟩, hs.c0, hs.c1, hs.hx, hs.xo⟩
    have hLi := cListed s { c with diameter := d } x k w hs' hk
    have eL : leastB w x { c with diameter := d } = l := hL
    have eM : mostB w x { c with diameter := d } = m := hM
    rw [eL, eM] at hLi
    have hiff := sz_iff hs.so (l := l) (m := m) ⟨h1, hd⟩
    simp (config := { maxSteps := 400000 }) only [hd, go_sem, ↓reduceIte, reduceCtorEq, Nat.reduceEqDiff, Nat.reduceAdd, Nat.reduceLT, Nat.reduceLeDiff, Nat.reduceSub, Int.reduceToNat, Int.reduceLE, Int.reduceLT, Int.reduceNeg, Int.reduceBEq, Int.reduceBNe, Nat.reduceMul, Int.reduceAdd, Int.reduceMul, Int.reduceSub, Int.reduceEq, Int.reduceNe]
    refine WF_pure hLi rfl ?_
    simp (config := { maxSteps := 400000 }) only [intsPV, go_sem, ↓reduceIte, reduceCtorEq, Nat.reduceEqDiff, Nat.reduceAdd, Nat.reduceLT, Nat.reduceLeDiff, Nat.reduceSub, Int.reduceToNat, Int.reduceLE, Int.reduceLT, Int.reduceNeg, Int.reduceBEq, Int.reduceBNe, Nat.reduceMul, Int.reduceAdd, Int.reduceMul, Int.reduceSub, Int.reduceEq, Int.reduceNe]
    have hok : ((((faultsOf s d l m).length : Nat) : Int) == 0) = (!szBad s l m && (decide (szLo s m ≤ d) && decide (d ≤ szHi s l m))) := by
      rw [← hiff, Bool.eq_iff_iff]; simp
    rw [hok]
    have ed : d + 1 - 1 = d := by omega
    cases hb : (!szBad s l m && (decide (szLo s m ≤ d) && decide (d ≤ szHi s l m)))
    · have hst : szAt s l m d = szAt s l m (d - 1) := by
        unfold szAt
        simp only [Bool.and_eq_false_iff, Bool.not_eq_false', decide_eq_false_iff_not] at hb
        by_cases hc : szBad s l m = false ∧ szLo s m ≤ szHi s l m ∧ szLo s m ≤ d
        · have hgt : szHi s l m < d := by
            rcases hb with hb | hb | hb
            · rw [hc.1] at hb; cases hb
            · omega
            · omega
          rw [if_pos hc, if_neg (show ¬ d < szHi s l m by omega), if_pos (show szBad s l m = false ∧ szLo s m ≤ szHi s l m ∧ szLo s m ≤ d - 1 from ⟨hc.1, hc.2.1, by omega⟩), if_neg (show ¬ d - 1 < szHi s l m by omega)]
        · rw [if_neg hc, if_neg (by intro hc'; exact hc ⟨hc'.1, hc'.2.1, by omega⟩)]
      simp (config := { maxSteps := 400000 }) only [go_sem, ↓reduceIte, reduceCtorEq, Nat.reduceEqDiff, Nat.reduceAdd, Nat.reduceLT, Nat.reduceLeDiff, Nat.reduceSub, Int.reduceToNat, Int.reduceLE, Int.reduceLT, Int.reduceNeg, Int.reduceBEq, Int.reduceBNe, Nat.reduceMul, Int.reduceAdd, Int.reduceMul, Int.reduceSub, Int.reduceEq, Int.reduceNe]
      refine WQ_headA (d + 1, d) ⟨by omega, by omega⟩ (by simp; omega) ?_
      simp (config := { maxSteps := 400000 }) only [hnx, ed, hst, go_sem, ↓reduceIte, reduceCtorEq, Nat.reduceEqDiff, Nat.reduceAdd, Nat.reduceLT, Nat.reduceLeDiff, Nat.reduceSub, Int.reduceToNat, Int.reduceLE, Int.reduceLT, Int.reduceNeg, Int.reduceBEq, Int.reduceBNe, Nat.reduceMul, Int.reduceAdd, Int.reduceMul, Int.reduceSub, Int.reduceEq, Int.reduceNe]
    · simp only [Bool.and_eq_true, Bool.not_eq_true', decide_eq_true_eq] at hb
      have hst : szAt s l m d = ⟨szLo s m, d⟩ := by
        unfold szAt
        rw [if_pos ⟨hb.1, by omega, hb.2.1⟩]
        have : (if d < szHi s l m then d else szHi s l m) = d := by split <;> omega
        rw [this]
      by_cases hf : szLo s m ≤ d - 1
      · have hpr : szAt s l m (d - 1) = ⟨szLo s m, d - 1⟩ := by
          unfold szAt
          rw [if_pos ⟨hb.1, by omega, hf⟩, if_pos (by omega)]
        have hz : (szLo s m == 0) = false := by simp; omega
        simp (config := { maxSteps := 400000 }) only [hpr, hz, go_sem, ↓reduceIte, reduceCtorEq, Nat.reduceEqDiff, Nat.reduceAdd, Nat.reduceLT, Nat.reduceLeDiff, Nat.reduceSub, Int.reduceToNat, Int.reduceLE, Int.reduceLT, Int.reduceNeg, Int.reduceBEq, Int.reduceBNe, Nat.reduceMul, Int.reduceAdd, Int.reduceMul, Int.reduceSub, Int.reduceEq, Int.reduceNe]
        refine WQ_headA (d + 1, d) ⟨by omega, by omega⟩ (by simp; omega) ?_
        simp (config := { maxSteps := 400000 }) only [hnx, ed, hst, go_sem, ↓reduceIte, reduceCtorEq, Nat.reduceEqDiff, Nat.reduceAdd, Nat.reduceLT, Nat.reduceLeDiff, Nat.reduceSub, Int.reduceToNat, Int.reduceLE, Int.reduceLT, Int.reduceNeg, Int.reduceBEq, Int.reduceBNe, Nat.reduceMul, Int.reduceAdd, Int.reduceMul, Int.reduceSub, Int.reduceEq, Int.reduceNe]
      · have hpr : szAt s l m (d - 1) = ⟨0, 0⟩ := by
          unfold szAt
          rw [if_neg (by intro hc; exact hf hc.2.2)]
        have hld : szLo s m = d := by omega
        simp (config := { maxSteps := 400000 }) only [hpr, go_sem, ↓reduceIte, reduceCtorEq, Nat.reduceEqDiff, Nat.reduceAdd, Nat.reduceLT, Nat.reduceLeDiff, Nat.reduceSub, Int.reduceToNat, Int.reduceLE, Int.reduceLT, Int.reduceNeg, Int.reduceBEq, Int.reduceBNe, Nat.reduceMul, Int.reduceAdd, Int.reduceMul, Int.reduceSub, Int.reduceEq, Int.reduceNe]
        refine WQ_headA (d + 1, d) ⟨by omega, by omega⟩ (by simp; omega) ?_
        simp (config := { maxSteps := 400000 }) only [hnx, ed, hst, hld, go_sem, ↓reduceIte, reduceCtorEq, Nat.reduceEqDiff, Nat.reduceAdd, Nat.reduceLT, Nat.reduceLeDiff, Nat.reduceSub, Int.reduceToNat, Int.reduceLE, Int.reduceLT, Int.reduceNeg, Int.reduceBEq, Int.reduceBNe, Nat.reduceMul, Int.reduceAdd, Int.reduceMul, Int.reduceSub, Int.reduceEq, Int.reduceNe]
  · have hd' : d = 2001 := by omega
    subst hd'
    have e3 : szAt s l m (2001 - 1) = (szSpan s l m).1 := szAt_end s l m
    have e4 : (2001 - 1 : Int) = 2000 := by decide
    rw [e4] at e3
    by_cases hb : (decide (szHi s l m < szLo s m) || szBad s l m) = true
    · have hS : szSpan s l m = (⟨0, 0⟩, 9) := if_pos hb
      rw [hS] at e3
      simp (config := { maxSteps := 400000 }) only [e3, hS, go_sem, ↓reduceIte, reduceCtorEq, Nat.reduceEqDiff, Nat.reduceAdd, Nat.reduceLT, Nat.reduceLeDiff, Nat.reduceSub, Int.reduceToNat, Int.reduceLE, Int.reduceLT, Int.reduceNeg, Int.reduceBEq, Int.reduceBNe, Nat.reduceMul, Int.reduceAdd, Int.reduceMul, Int.reduceSub, Int.reduceEq, Int.reduceNe]
    · have hS : szSpan s l m = (⟨szLo s m, szHi s l m⟩, 0) := if_neg hb
      have hz : (szHi s l m == 0) = false := by simp at hb ⊢; omega
      rw [hS] at e3
      simp (config := { maxSteps := 400000 }) only [e3, hS, hz, go_sem, ↓reduceIte, reduceCtorEq, Nat.reduceEqDiff, Nat.reduceAdd, Nat.reduceLT, Nat.reduceLeDiff, Nat.reduceSub, Int.reduceToNat, Int.reduceLE, Int.reduceLT, Int.reduceNeg, Int.reduceBEq, Int.reduceBNe, Nat.reduceMul, Int.reduceAdd, Int.reduceMul, Int.reduceSub, Int.reduceEq, Int.reduceNe]

theorem cWickSizes (s : Shop) (k : Int) (c : Candle) (w : Wick) (x : Wax) (h : askErr s [k] c = 0 → Site s c x ∧ SiteK s k w) :
    PCall Try.prog 30 [s.pv, .int .i64 k, c.pv] (.tuple [(sizesSpec s k c w x).1.pv, .int .i64 (sizesSpec s k c w x).2]) := by
  refine pcall_of_wp draws (fn := Try.f30) (n := 124) (rs := [.cell 6 25, .tmp 7]) (by kernel_rfl) rfl rfl rfl ok30 (Nat.le_of_ble_eq_true rfl) ?_
  simp (config := { maxSteps := 400000 }) only [go_sem, ↓reduceIte, reduceCtorEq, Nat.reduceEqDiff, Nat.reduceAdd, Nat.reduceLT, Nat.reduceLeDiff, Nat.reduceSub, Int.reduceToNat, Int.reduceLE, Int.reduceLT, Int.reduceNeg, Int.reduceBEq, Int.reduceBNe, Nat.reduceMul, Int.reduceAdd, Int.reduceMul, Int.reduceSub, Int.reduceEq, Int.reduceNe]
  refine WF_pure (cOpen s c [k] true _ rfl (by simp) x (fun h0 => (h h0).1.hx)) rfl ?_
  by_cases h0' : askErr s [k] c = 0
  rotate_left
  · have h0 : (askErr s [k] c != 0) = true := by simpa using h0'
    simp (config := { maxSteps := 400000 }) only [h0, sizesSpec, if_neg h0', go_sem, ↓reduceIte, reduceCtorEq, Nat.reduceEqDiff, Nat.reduceAdd, Nat.reduceLT, Nat.reduceLeDiff, Nat.reduceSub, Int.reduceToNat, Int.reduceLE, Int.reduceLT, Int.reduceNeg, Int.reduceBEq, Int.reduceBNe, Nat.reduceMul, Int.reduceAdd, Int.reduceMul, Int.reduceSub, Int.reduceEq, Int.reduceNe]
  have h0 : (askErr s [k] c != 0) = false := by simpa using h0'
  obtain ⟨hs, hk⟩ := h h0'
  have hsp : sizesSpec s k c w x = szSpan s (leastB w x c) (mostB w x c) := by rw [sizesSpec, if_pos h0']
  rw [hsp]
  have bl := bok_of (leastOk hk.wo hs.xo hs.co) hs.xo.c
  have bm := bok_of (mostOk hk.wo hs.xo hs.co) hs.xo.c
  have hcE := cEnds s c x k w hs hk
  have po := hs.so.po
  have fl := hs.so.fl
  have e1 : leastB w x c = burnOf x.chill (leastT w x c) := rfl
  have e2 : mostB w x c = burnOf x.chill (mostT w x c) := rfl
  rw [← e1] at bl
  rw [← e2] at bm
  generalize leastB w x c = l at hcE bl ⊢
  generalize mostB w x c = m at hcE bm ⊢
  have w1 : IntKind.i64.wrap (s.pool.lo * 1000) = s.pool.lo * 1000 := wrap_in (by omega) (by omega)
  have w2 : IntKind.i64.wrap (s.pool.hi * 1000) = s.pool.hi * 1000 := wrap_in (by omega) (by omega)
  have w3 : IntKind.i64.wrap (m.pool + s.pool.hi * 1000) = m.pool + s.pool.hi * 1000 := wrap_in (by have := bm.p; omega) (by have := bm.p; omega)
  have w4 : IntKind.i64.wrap (m.pool + s.pool.hi * 1000 - 1) = m.pool + s.pool.hi * 1000 - 1 := wrap_in (by have := bm.p; omega) (by have := bm.p; omega)
  have w5 : IntKind.i64.wrap (s.flame.lo * 1000000) = s.flame.lo * 1000000 := wrap_in (by omega) (by omega)
  have w6 : IntKind.i64.wrap (s.flame.hi * 1000000) = s.flame.hi * 1000000 := wrap_in (by omega) (by omega)
  have t3 : decide (s.flame.hi * 1000000 < m.flame) = smokes s m := rfl
  have t4 : decide (l.flame < s.flame.lo * 1000000) = goesOut s l := rfl
  simp (config := { maxSteps := 400000 }) only [h0, if_pos h0', go_sem, ↓reduceIte, reduceCtorEq, Nat.reduceEqDiff, Nat.reduceAdd, Nat.reduceLT, Nat.reduceLeDiff, Nat.reduceSub, Int.reduceToNat, Int.reduceLE, Int.reduceLT, Int.reduceNeg, Int.reduceBEq, Int.reduceBNe, Nat.reduceMul, Int.reduceAdd, Int.reduceMul, Int.reduceSub, Int.reduceEq, Int.reduceNe]
  refine WF_pure hcE rfl ?_
  simp (config := { maxSteps := 400000 }) only [go_sem, ↓reduceIte, reduceCtorEq, Nat.reduceEqDiff, Nat.reduceAdd, Nat.reduceLT, Nat.reduceLeDiff, Nat.reduceSub, Int.reduceToNat, Int.reduceLE, Int.reduceLT, Int.reduceNeg, Int.reduceBEq, Int.reduceBNe, Nat.reduceMul, Int.reduceAdd, Int.reduceMul, Int.reduceSub, Int.reduceEq, Int.reduceNe]
  -- the last part of the way
  have key : ∀ lo hi : Int, lo = szLo s m → hi = szHi s l m → (decide (hi < lo) = true → szSpan s l m = (⟨0, 0⟩, 9)) ∧ (decide (hi < lo) = false → goesOut s l = true → szSpan s l m = (⟨0, 0⟩, 9)) ∧
      (decide (hi < lo) = false → goesOut s l = false → smokes s m = true → szSpan s l m = (⟨0, 0⟩, 9)) ∧ (decide (hi < lo) = false → goesOut s l = false → smokes s m = false → szSpan s l m = (⟨lo, hi⟩, 0)) := by
    rintro lo hi rfl rfl
    unfold szSpan szBad
    refine ⟨fun h => by rw [h]; rfl, fun h h2 => by rw [h, h2]; rfl, fun h h2 h3 => by rw [h, h2, h3]; rfl, fun h h2 h3 => by rw [h, h2, h3]; rfl⟩
  cases c1 : decide (l.pool < 0)
  · have c1' : ¬ l.pool < 0 := by simpa using c1
    simp (config := { maxSteps := 400000 }) only [c1, go_sem, ↓reduceIte, reduceCtorEq, Nat.reduceEqDiff, Nat.reduceAdd, Nat.reduceLT, Nat.reduceLeDiff, Nat.reduceSub, Int.reduceToNat, Int.reduceLE, Int.reduceLT, Int.reduceNeg, Int.reduceBEq, Int.reduceBNe, Nat.reduceMul, Int.reduceAdd, Int.reduceMul, Int.reduceSub, Int.reduceEq, Int.reduceNe]
    cases c2 : decide (0 < s.pool.lo)
    · have c2' : ¬ 0 < s.pool.lo := by simpa using c2
      simp (config := { maxSteps := 400000 }) only [c2, go_sem, ↓reduceIte, reduceCtorEq, Nat.reduceEqDiff, Nat.reduceAdd, Nat.reduceLT, Nat.reduceLeDiff, Nat.reduceSub, Int.reduceToNat, Int.reduceLE, Int.reduceLT, Int.reduceNeg, Int.reduceBEq, Int.reduceBNe, Nat.reduceMul, Int.reduceAdd, Int.reduceMul, Int.reduceSub, Int.reduceEq, Int.reduceNe]
      cases c3 : decide (m.pool ≤ 0)
      · have c3' : ¬ m.pool ≤ 0 := by simpa using c3
        simp (config := { maxSteps := 400000 }) only [c3, go_sem, ↓reduceIte, reduceCtorEq, Nat.reduceEqDiff, Nat.reduceAdd, Nat.reduceLT, Nat.reduceLeDiff, Nat.reduceSub, Int.reduceToNat, Int.reduceLE, Int.reduceLT, Int.reduceNeg, Int.reduceBEq, Int.reduceBNe, Nat.reduceMul, Int.reduceAdd, Int.reduceMul, Int.reduceSub, Int.reduceEq, Int.reduceNe]
        cases c4 : (s.pool.hi == 0)
        · have c4' : ¬ s.pool.hi = 0 := by simpa using c4
          have n2 : ¬ (s.pool.hi * 1000 = 0) := by omega
          have n3 : 0 ≤ m.pool + s.pool.hi * 1000 - 1 := by omega
          have d2 := tdiv_bd (a := m.pool + s.pool.hi * 1000 - 1) (b := s.pool.hi * 1000) n3 (by have := bm.p; omega) (by omega)
          simp (config := { maxSteps := 400000 }) only [w1, w2, w3, w4, d2, if_neg n2, go_sem, ↓reduceIte, reduceCtorEq, Nat.reduceEqDiff, Nat.reduceAdd, Nat.reduceLT, Nat.reduceLeDiff, Nat.reduceSub, Int.reduceToNat, Int.reduceLE, Int.reduceLT, Int.reduceNeg, Int.reduceBEq, Int.reduceBNe, Nat.reduceMul, Int.reduceAdd, Int.reduceMul, Int.reduceSub, Int.reduceEq, Int.reduceNe]
          have hlo : (if 1 < (m.pool + s.pool.hi * 1000 - 1).tdiv (s.pool.hi * 1000) then (m.pool + s.pool.hi * 1000 - 1).tdiv (s.pool.hi * 1000) else 1) = szLo s m := by unfold szLo; simp [c3', c4', c1', c2']
          have hhi : 2000 = szHi s l m := by unfold szHi; simp [c3', c4', c1', c2']
          obtain ⟨k1, k2, k3, k4⟩ := key _ _ hlo hhi
          cases hA : decide (2000 < (if 1 < (m.pool + s.pool.hi * 1000 - 1).tdiv (s.pool.hi * 1000) then (m.pool + s.pool.hi * 1000 - 1).tdiv (s.pool.hi * 1000) else 1))
          · simp (config := { maxSteps := 400000 }) only [w5, t4, go_sem, ↓reduceIte, reduceCtorEq, Nat.reduceEqDiff, Nat.reduceAdd, Nat.reduceLT, Nat.reduceLeDiff, Nat.reduceSub, Int.reduceToNat, Int.reduceLE, Int.reduceLT, Int.reduceNeg, Int.reduceBEq, Int.reduceBNe, Nat.reduceMul, Int.reduceAdd, Int.reduceMul, Int.reduceSub, Int.reduceEq, Int.reduceNe]
            cases hB : goesOut s l
            · simp (config := { maxSteps := 400000 }) only [w6, t3, go_sem, ↓reduceIte, reduceCtorEq, Nat.reduceEqDiff, Nat.reduceAdd, Nat.reduceLT, Nat.reduceLeDiff, Nat.reduceSub, Int.reduceToNat, Int.reduceLE, Int.reduceLT, Int.reduceNeg, Int.reduceBEq, Int.reduceBNe, Nat.reduceMul, Int.reduceAdd, Int.reduceMul, Int.reduceSub, Int.reduceEq, Int.reduceNe]
              cases hC : smokes s m
              · simp (config := { maxSteps := 400000 }) only [k4 hA hB hC, go_sem, ↓reduceIte, reduceCtorEq, Nat.reduceEqDiff, Nat.reduceAdd, Nat.reduceLT, Nat.reduceLeDiff, Nat.reduceSub, Int.reduceToNat, Int.reduceLE, Int.reduceLT, Int.reduceNeg, Int.reduceBEq, Int.reduceBNe, Nat.reduceMul, Int.reduceAdd, Int.reduceMul, Int.reduceSub, Int.reduceEq, Int.reduceNe]
              · simp (config := { maxSteps := 400000 }) only [k3 hA hB hC, go_sem, ↓reduceIte, reduceCtorEq, Nat.reduceEqDiff, Nat.reduceAdd, Nat.reduceLT, Nat.reduceLeDiff, Nat.reduceSub, Int.reduceToNat, Int.reduceLE, Int.reduceLT, Int.reduceNeg, Int.reduceBEq, Int.reduceBNe, Nat.reduceMul, Int.reduceAdd, Int.reduceMul, Int.reduceSub, Int.reduceEq, Int.reduceNe]
            · simp (config := { maxSteps := 400000 }) only [k2 hA hB, go_sem, ↓reduceIte, reduceCtorEq, Nat.reduceEqDiff, Nat.reduceAdd, Nat.reduceLT, Nat.reduceLeDiff, Nat.reduceSub, Int.reduceToNat, Int.reduceLE, Int.reduceLT, Int.reduceNeg, Int.reduceBEq, Int.reduceBNe, Nat.reduceMul, Int.reduceAdd, Int.reduceMul, Int.reduceSub, Int.reduceEq, Int.reduceNe]
          · simp (config := { maxSteps := 400000 }) only [k1 hA, go_sem, ↓reduceIte, reduceCtorEq, Nat.reduceEqDiff, Nat.reduceAdd, Nat.reduceLT, Nat.reduceLeDiff, Nat.reduceSub, Int.reduceToNat, Int.reduceLE, Int.reduceLT, Int.reduceNeg, Int.reduceBEq, Int.reduceBNe, Nat.reduceMul, Int.reduceAdd, Int.reduceMul, Int.reduceSub, Int.reduceEq, Int.reduceNe]
        · have c4' : s.pool.hi = 0 := by simpa using c4
          simp (config := { maxSteps := 400000 }) only [c4, go_sem, ↓reduceIte, reduceCtorEq, Nat.reduceEqDiff, Nat.reduceAdd, Nat.reduceLT, Nat.reduceLeDiff, Nat.reduceSub, Int.reduceToNat, Int.reduceLE, Int.reduceLT, Int.reduceNeg, Int.reduceBEq, Int.reduceBNe, Nat.reduceMul, Int.reduceAdd, Int.reduceMul, Int.reduceSub, Int.reduceEq, Int.reduceNe]
          have hlo : 1 = szLo s m := by unfold szLo; simp [c3', c4', c1', c2']
          have hhi : 0 = szHi s l m := by unfold szHi; simp [c3', c4', c1', c2']
          obtain ⟨k1, k2, k3, k4⟩ := key _ _ hlo hhi
          simp (config := { maxSteps := 400000 }) only [k1 (by decide), go_sem, ↓reduceIte, reduceCtorEq, Nat.reduceEqDiff, Nat.reduceAdd, Nat.reduceLT, Nat.reduceLeDiff, Nat.reduceSub, Int.reduceToNat, Int.reduceLE, Int.reduceLT, Int.reduceNeg, Int.reduceBEq, Int.reduceBNe, Nat.reduceMul, Int.reduceAdd, Int.reduceMul, Int.reduceSub, Int.reduceEq, Int.reduceNe]
      · have c3' : m.pool ≤ 0 := by simpa using c3
        simp (config := { maxSteps := 400000 }) only [c3, w5, t4, go_sem, ↓reduceIte, reduceCtorEq, Nat.reduceEqDiff, Nat.reduceAdd, Nat.reduceLT, Nat.reduceLeDiff, Nat.reduceSub, Int.reduceToNat, Int.reduceLE, Int.reduceLT, Int.reduceNeg, Int.reduceBEq, Int.reduceBNe, Nat.reduceMul, Int.reduceAdd, Int.reduceMul, Int.reduceSub, Int.reduceEq, Int.reduceNe]
        have hlo : 1 = szLo s m := by unfold szLo; simp [c3', c1', c2']
        have hhi : 2000 = szHi s l m := by unfold szHi; simp [c3', c1', c2']
        obtain ⟨k1, k2, k3, k4⟩ := key _ _ hlo hhi
        have hA : decide ((2000 : Int) < 1) = false := by decide
        cases hB : goesOut s l
        · simp (config := { maxSteps := 400000 }) only [w6, t3, go_sem, ↓reduceIte, reduceCtorEq, Nat.reduceEqDiff, Nat.reduceAdd, Nat.reduceLT, Nat.reduceLeDiff, Nat.reduceSub, Int.reduceToNat, Int.reduceLE, Int.reduceLT, Int.reduceNeg, Int.reduceBEq, Int.reduceBNe, Nat.reduceMul, Int.reduceAdd, Int.reduceMul, Int.reduceSub, Int.reduceEq, Int.reduceNe]
          cases hC : smokes s m
          · simp (config := { maxSteps := 400000 }) only [k4 hA hB hC, go_sem, ↓reduceIte, reduceCtorEq, Nat.reduceEqDiff, Nat.reduceAdd, Nat.reduceLT, Nat.reduceLeDiff, Nat.reduceSub, Int.reduceToNat, Int.reduceLE, Int.reduceLT, Int.reduceNeg, Int.reduceBEq, Int.reduceBNe, Nat.reduceMul, Int.reduceAdd, Int.reduceMul, Int.reduceSub, Int.reduceEq, Int.reduceNe]
          · simp (config := { maxSteps := 400000 }) only [k3 hA hB hC, go_sem, ↓reduceIte, reduceCtorEq, Nat.reduceEqDiff, Nat.reduceAdd, Nat.reduceLT, Nat.reduceLeDiff, Nat.reduceSub, Int.reduceToNat, Int.reduceLE, Int.reduceLT, Int.reduceNeg, Int.reduceBEq, Int.reduceBNe, Nat.reduceMul, Int.reduceAdd, Int.reduceMul, Int.reduceSub, Int.reduceEq, Int.reduceNe]
        · simp (config := { maxSteps := 400000 }) only [k2 hA hB, go_sem, ↓reduceIte, reduceCtorEq, Nat.reduceEqDiff, Nat.reduceAdd, Nat.reduceLT, Nat.reduceLeDiff, Nat.reduceSub, Int.reduceToNat, Int.reduceLE, Int.reduceLT, Int.reduceNeg, Int.reduceBEq, Int.reduceBNe, Nat.reduceMul, Int.reduceAdd, Int.reduceMul, Int.reduceSub, Int.reduceEq, Int.reduceNe]
    · have c2' : 0 < s.pool.lo := by simpa using c2
      have n1 : ¬ (s.pool.lo * 1000 = 0) := by omega
      have d1 := tdiv_bd (a := l.pool) (b := s.pool.lo * 1000) (by omega) (by have := bl.p; omega) (by omega)
      simp (config := { maxSteps := 400000 }) only [c2, w1, d1, if_neg n1, go_sem, ↓reduceIte, reduceCtorEq, Nat.reduceEqDiff, Nat.reduceAdd, Nat.reduceLT, Nat.reduceLeDiff, Nat.reduceSub, Int.reduceToNat, Int.reduceLE, Int.reduceLT, Int.reduceNeg, Int.reduceBEq, Int.reduceBNe, Nat.reduceMul, Int.reduceAdd, Int.reduceMul, Int.reduceSub, Int.reduceEq, Int.reduceNe]
      cases c3 : decide (m.pool ≤ 0)
      · have c3' : ¬ m.pool ≤ 0 := by simpa using c3
        simp (config := { maxSteps := 400000 }) only [c3, go_sem, ↓reduceIte, reduceCtorEq, Nat.reduceEqDiff, Nat.reduceAdd, Nat.reduceLT, Nat.reduceLeDiff, Nat.reduceSub, Int.reduceToNat, Int.reduceLE, Int.reduceLT, Int.reduceNeg, Int.reduceBEq, Int.reduceBNe, Nat.reduceMul, Int.reduceAdd, Int.reduceMul, Int.reduceSub, Int.reduceEq, Int.reduceNe]
        cases c4 : (s.pool.hi == 0)
        · have c4' : ¬ s.pool.hi = 0 := by simpa using c4
          have n2 : ¬ (s.pool.hi * 1000 = 0) := by omega
          have n3 : 0 ≤ m.pool + s.pool.hi * 1000 - 1 := by omega
          have d2 := tdiv_bd (a := m.pool + s.pool.hi * 1000 - 1) (b := s.pool.hi * 1000) n3 (by have := bm.p; omega) (by omega)
          simp (config := { maxSteps := 400000 }) only [w1, w2, w3, w4, d2, if_neg n2, go_sem, ↓reduceIte, reduceCtorEq, Nat.reduceEqDiff, Nat.reduceAdd, Nat.reduceLT, Nat.reduceLeDiff, Nat.reduceSub, Int.reduceToNat, Int.reduceLE, Int.reduceLT, Int.reduceNeg, Int.reduceBEq, Int.reduceBNe, Nat.reduceMul, Int.reduceAdd, Int.reduceMul, Int.reduceSub, Int.reduceEq, Int.reduceNe]
          have hlo : (if 1 < (m.pool + s.pool.hi * 1000 - 1).tdiv (s.pool.hi * 1000) then (m.pool + s.pool.hi * 1000 - 1).tdiv (s.pool.hi * 1000) else 1) = szLo s m := by unfold szLo; simp [c3', c4', c1', c2']
          have hhi : (if l.pool.tdiv (s.pool.lo * 1000) < 2000 then l.pool.tdiv (s.pool.lo * 1000) else 2000) = szHi s l m := by unfold szHi; simp [c3', c4', c1', c2']
          obtain ⟨k1, k2, k3, k4⟩ := key _ _ hlo hhi
          cases hA : decide ((if l.pool.tdiv (s.pool.lo * 1000) < 2000 then l.pool.tdiv (s.pool.lo * 1000) else 2000) < (if 1 < (m.pool + s.pool.hi * 1000 - 1).tdiv (s.pool.hi * 1000) then (m.pool + s.pool.hi * 1000 - 1).tdiv (s.pool.hi * 1000) else 1))
          · simp (config := { maxSteps := 400000 }) only [w5, t4, go_sem, ↓reduceIte, reduceCtorEq, Nat.reduceEqDiff, Nat.reduceAdd, Nat.reduceLT, Nat.reduceLeDiff, Nat.reduceSub, Int.reduceToNat, Int.reduceLE, Int.reduceLT, Int.reduceNeg, Int.reduceBEq, Int.reduceBNe, Nat.reduceMul, Int.reduceAdd, Int.reduceMul, Int.reduceSub, Int.reduceEq, Int.reduceNe]
            cases hB : goesOut s l
            · simp (config := { maxSteps := 400000 }) only [w6, t3, go_sem, ↓reduceIte, reduceCtorEq, Nat.reduceEqDiff, Nat.reduceAdd, Nat.reduceLT, Nat.reduceLeDiff, Nat.reduceSub, Int.reduceToNat, Int.reduceLE, Int.reduceLT, Int.reduceNeg, Int.reduceBEq, Int.reduceBNe, Nat.reduceMul, Int.reduceAdd, Int.reduceMul, Int.reduceSub, Int.reduceEq, Int.reduceNe]
              cases hC : smokes s m
              · simp (config := { maxSteps := 400000 }) only [k4 hA hB hC, go_sem, ↓reduceIte, reduceCtorEq, Nat.reduceEqDiff, Nat.reduceAdd, Nat.reduceLT, Nat.reduceLeDiff, Nat.reduceSub, Int.reduceToNat, Int.reduceLE, Int.reduceLT, Int.reduceNeg, Int.reduceBEq, Int.reduceBNe, Nat.reduceMul, Int.reduceAdd, Int.reduceMul, Int.reduceSub, Int.reduceEq, Int.reduceNe]
              · simp (config := { maxSteps := 400000 }) only [k3 hA hB hC, go_sem, ↓reduceIte, reduceCtorEq, Nat.reduceEqDiff, Nat.reduceAdd, Nat.reduceLT, Nat.reduceLeDiff, Nat.reduceSub, Int.reduceToNat, Int.reduceLE, Int.reduceLT, Int.reduceNeg, Int.reduceBEq, Int.reduceBNe, Nat.reduceMul, Int.reduceAdd, Int.reduceMul, Int.reduceSub, Int.reduceEq, Int.reduceNe]
            · simp (config := { maxSteps := 400000 }) only [k2 hA hB, go_sem, ↓reduceIte, reduceCtorEq, Nat.reduceEqDiff, Nat.reduceAdd, Nat.reduceLT, Nat.reduceLeDiff, Nat.reduceSub, Int.reduceToNat, Int.reduceLE, Int.reduceLT, Int.reduceNeg, Int.reduceBEq, Int.reduceBNe, Nat.reduceMul, Int.reduceAdd, Int.reduceMul, Int.reduceSub, Int.reduceEq, Int.reduceNe]
          · simp (config := { maxSteps := 400000 }) only [k1 hA, go_sem, ↓reduceIte, reduceCtorEq, Nat.reduceEqDiff, Nat.reduceAdd, Nat.reduceLT, Nat.reduceLeDiff, Nat.reduceSub, Int.reduceToNat, Int.reduceLE, Int.reduceLT, Int.reduceNeg, Int.reduceBEq, Int.reduceBNe, Nat.reduceMul, Int.reduceAdd, Int.reduceMul, Int.reduceSub, Int.reduceEq, Int.reduceNe]
        · have c4' : s.pool.hi = 0 := by simpa using c4
          simp (config := { maxSteps := 400000 }) only [c4, go_sem, ↓reduceIte, reduceCtorEq, Nat.reduceEqDiff, Nat.reduceAdd, Nat.reduceLT, Nat.reduceLeDiff, Nat.reduceSub, Int.reduceToNat, Int.reduceLE, Int.reduceLT, Int.reduceNeg, Int.reduceBEq, Int.reduceBNe, Nat.reduceMul, Int.reduceAdd, Int.reduceMul, Int.reduceSub, Int.reduceEq, Int.reduceNe]
          have hlo : 1 = szLo s m := by unfold szLo; simp [c3', c4', c1', c2']
          have hhi : 0 = szHi s l m := by unfold szHi; simp [c3', c4', c1', c2']
          obtain ⟨k1, k2, k3, k4⟩ := key _ _ hlo hhi
          simp (config := { maxSteps := 400000 }) only [k1 (by decide), go_sem, ↓reduceIte, reduceCtorEq, Nat.reduceEqDiff, Nat.reduceAdd, Nat.reduceLT, Nat.reduceLeDiff, Nat.reduceSub, Int.reduceToNat, Int.reduceLE, Int.reduceLT, Int.reduceNeg, Int.reduceBEq, Int.reduceBNe, Nat.reduceMul, Int.reduceAdd, Int.reduceMul, Int.reduceSub, Int.reduceEq, Int.reduceNe]
      · have c3' : m.pool ≤ 0 := by simpa using c3
        simp (config := { maxSteps := 400000 }) only [c3, go_sem, ↓reduceIte, reduceCtorEq, Nat.reduceEqDiff, Nat.reduceAdd, Nat.reduceLT, Nat.reduceLeDiff, Nat.reduceSub, Int.reduceToNat, Int.reduceLE, Int.reduceLT, Int.reduceNeg, Int.reduceBEq, Int.reduceBNe, Nat.reduceMul, Int.reduceAdd, Int.reduceMul, Int.reduceSub, Int.reduceEq, Int.reduceNe]
        have hlo : 1 = szLo s m := by unfold szLo; simp [c3', c1', c2']
        have hhi : (if l.pool.tdiv (s.pool.lo * 1000) < 2000 then l.pool.tdiv (s.pool.lo * 1000) else 2000) = szHi s l m := by unfold szHi; simp [c3', c1', c2']
        obtain ⟨k1, k2, k3, k4⟩ := key _ _ hlo hhi
        cases hA : decide ((if l.pool.tdiv (s.pool.lo * 1000) < 2000 then l.pool.tdiv (s.pool.lo * 1000) else 2000) < 1)
        · simp (config := { maxSteps := 400000 }) only [w5, t4, go_sem, ↓reduceIte, reduceCtorEq, Nat.reduceEqDiff, Nat.reduceAdd, Nat.reduceLT, Nat.reduceLeDiff, Nat.reduceSub, Int.reduceToNat, Int.reduceLE, Int.reduceLT, Int.reduceNeg, Int.reduceBEq, Int.reduceBNe, Nat.reduceMul, Int.reduceAdd, Int.reduceMul, Int.reduceSub, Int.reduceEq, Int.reduceNe]
          cases hB : goesOut s l
          · simp (config := { maxSteps := 400000 }) only [w6, t3, go_sem, ↓reduceIte, reduceCtorEq, Nat.reduceEqDiff, Nat.reduceAdd, Nat.reduceLT, Nat.reduceLeDiff, Nat.reduceSub, Int.reduceToNat, Int.reduceLE, Int.reduceLT, Int.reduceNeg, Int.reduceBEq, Int.reduceBNe, Nat.reduceMul, Int.reduceAdd, Int.reduceMul, Int.reduceSub, Int.reduceEq, Int.reduceNe]
            cases hC : smokes s m
            · simp (config := { maxSteps := 400000 }) only [k4 hA hB hC, go_sem, ↓reduceIte, reduceCtorEq, Nat.reduceEqDiff, Nat.reduceAdd, Nat.reduceLT, Nat.reduceLeDiff, Nat.reduceSub, Int.reduceToNat, Int.reduceLE, Int.reduceLT, Int.reduceNeg, Int.reduceBEq, Int.reduceBNe, Nat.reduceMul, Int.reduceAdd, Int.reduceMul, Int.reduceSub, Int.reduceEq, Int.reduceNe]
            · simp (config := { maxSteps := 400000 }) only [k3 hA hB hC, go_sem, ↓reduceIte, reduceCtorEq, Nat.reduceEqDiff, Nat.reduceAdd, Nat.reduceLT, Nat.reduceLeDiff, Nat.reduceSub, Int.reduceToNat, Int.reduceLE, Int.reduceLT, Int.reduceNeg, Int.reduceBEq, Int.reduceBNe, Nat.reduceMul, Int.reduceAdd, Int.reduceMul, Int.reduceSub, Int.reduceEq, Int.reduceNe]
          · simp (config := { maxSteps := 400000 }) only [k2 hA hB, go_sem, ↓reduceIte, reduceCtorEq, Nat.reduceEqDiff, Nat.reduceAdd, Nat.reduceLT, Nat.reduceLeDiff, Nat.reduceSub, Int.reduceToNat, Int.reduceLE, Int.reduceLT, Int.reduceNeg, Int.reduceBEq, Int.reduceBNe, Nat.reduceMul, Int.reduceAdd, Int.reduceMul, Int.reduceSub, Int.reduceEq, Int.reduceNe]
        · simp (config := { maxSteps := 400000 }) only [k1 hA, go_sem, ↓reduceIte, reduceCtorEq, Nat.reduceEqDiff, Nat.reduceAdd, Nat.reduceLT, Nat.reduceLeDiff, Nat.reduceSub, Int.reduceToNat, Int.reduceLE, Int.reduceLT, Int.reduceNeg, Int.reduceBEq, Int.reduceBNe, Nat.reduceMul, Int.reduceAdd, Int.reduceMul, Int.reduceSub, Int.reduceEq, Int.reduceNe]
  · have c1' : l.pool < 0 := by simpa using c1
    simp (config := { maxSteps := 400000 }) only [c1, go_sem, ↓reduceIte, reduceCtorEq, Nat.reduceEqDiff, Nat.reduceAdd, Nat.reduceLT, Nat.reduceLeDiff, Nat.reduceSub, Int.reduceToNat, Int.reduceLE, Int.reduceLT, Int.reduceNeg, Int.reduceBEq, Int.reduceBNe, Nat.reduceMul, Int.reduceAdd, Int.reduceMul, Int.reduceSub, Int.reduceEq, Int.reduceNe]
    cases c3 : decide (m.pool ≤ 0)
    · have c3' : ¬ m.pool ≤ 0 := by simpa using c3
      simp (config := { maxSteps := 400000 }) only [c3, go_sem, ↓reduceIte, reduceCtorEq, Nat.reduceEqDiff, Nat.reduceAdd, Nat.reduceLT, Nat.reduceLeDiff, Nat.reduceSub, Int.reduceToNat, Int.reduceLE, Int.reduceLT, Int.reduceNeg, Int.reduceBEq, Int.reduceBNe, Nat.reduceMul, Int.reduceAdd, Int.reduceMul, Int.reduceSub, Int.reduceEq, Int.reduceNe]
      cases c4 : (s.pool.hi == 0)
      · have c4' : ¬ s.pool.hi = 0 := by simpa using c4
        have n2 : ¬ (s.pool.hi * 1000 = 0) := by omega
        have n3 : 0 ≤ m.pool + s.pool.hi * 1000 - 1 := by omega
        have d2 := tdiv_bd (a := m.pool + s.pool.hi * 1000 - 1) (b := s.pool.hi * 1000) n3 (by have := bm.p; omega) (by omega)
        simp (config := { maxSteps := 400000 }) only [w1, w2, w3, w4, d2, if_neg n2, go_sem, ↓reduceIte, reduceCtorEq, Nat.reduceEqDiff, Nat.reduceAdd, Nat.reduceLT, Nat.reduceLeDiff, Nat.reduceSub, Int.reduceToNat, Int.reduceLE, Int.reduceLT, Int.reduceNeg, Int.reduceBEq, Int.reduceBNe, Nat.reduceMul, Int.reduceAdd, Int.reduceMul, Int.reduceSub, Int.reduceEq, Int.reduceNe]
        have hlo : (if 1 < (m.pool + s.pool.hi * 1000 - 1).tdiv (s.pool.hi * 1000) then (m.pool + s.pool.hi * 1000 - 1).tdiv (s.pool.hi * 1000) else 1) = szLo s m := by unfold szLo; simp [c3', c4', c1']
        have hhi : 0 = szHi s l m := by unfold szHi; simp [c3', c4', c1']
        obtain ⟨k1, k2, k3, k4⟩ := key _ _ hlo hhi
        cases hA : decide (0 < (if 1 < (m.pool + s.pool.hi * 1000 - 1).tdiv (s.pool.hi * 1000) then (m.pool + s.pool.hi * 1000 - 1).tdiv (s.pool.hi * 1000) else 1))
        · simp (config := { maxSteps := 400000 }) only [w5, t4, go_sem, ↓reduceIte, reduceCtorEq, Nat.reduceEqDiff, Nat.reduceAdd, Nat.reduceLT, Nat.reduceLeDiff, Nat.reduceSub, Int.reduceToNat, Int.reduceLE, Int.reduceLT, Int.reduceNeg, Int.reduceBEq, Int.reduceBNe, Nat.reduceMul, Int.reduceAdd, Int.reduceMul, Int.reduceSub, Int.reduceEq, Int.reduceNe]
          cases hB : goesOut s l
          · simp (config := { maxSteps := 400000 }) only [w6, t3, go_sem, ↓reduceIte, reduceCtorEq, Nat.reduceEqDiff, Nat.reduceAdd, Nat.reduceLT, Nat.reduceLeDiff, Nat.reduceSub, Int.reduceToNat, Int.reduceLE, Int.reduceLT, Int.reduceNeg, Int.reduceBEq, Int.reduceBNe, Nat.reduceMul, Int.reduceAdd, Int.reduceMul, Int.reduceSub, Int.reduceEq, Int.reduceNe]
            cases hC : smokes s m
            · simp (config := { maxSteps := 400000 }) only [k4 hA hB hC, go_sem, ↓reduceIte, reduceCtorEq, Nat.reduceEqDiff, Nat.reduceAdd, Nat.reduceLT, Nat.reduceLeDiff, Nat.reduceSub, Int.reduceToNat, Int.reduceLE, Int.reduceLT, Int.reduceNeg, Int.reduceBEq, Int.reduceBNe, Nat.reduceMul, Int.reduceAdd, Int.reduceMul, Int.reduceSub, Int.reduceEq, Int.reduceNe]
            · simp (config := { maxSteps := 400000 }) only [k3 hA hB hC, go_sem, ↓reduceIte, reduceCtorEq, Nat.reduceEqDiff, Nat.reduceAdd, Nat.reduceLT, Nat.reduceLeDiff, Nat.reduceSub, Int.reduceToNat, Int.reduceLE, Int.reduceLT, Int.reduceNeg, Int.reduceBEq, Int.reduceBNe, Nat.reduceMul, Int.reduceAdd, Int.reduceMul, Int.reduceSub, Int.reduceEq, Int.reduceNe]
          · simp (config := { maxSteps := 400000 }) only [k2 hA hB, go_sem, ↓reduceIte, reduceCtorEq, Nat.reduceEqDiff, Nat.reduceAdd, Nat.reduceLT, Nat.reduceLeDiff, Nat.reduceSub, Int.reduceToNat, Int.reduceLE, Int.reduceLT, Int.reduceNeg, Int.reduceBEq, Int.reduceBNe, Nat.reduceMul, Int.reduceAdd, Int.reduceMul, Int.reduceSub, Int.reduceEq, Int.reduceNe]
        · simp (config := { maxSteps := 400000 }) only [k1 hA, go_sem, ↓reduceIte, reduceCtorEq, Nat.reduceEqDiff, Nat.reduceAdd, Nat.reduceLT, Nat.reduceLeDiff, Nat.reduceSub, Int.reduceToNat, Int.reduceLE, Int.reduceLT, Int.reduceNeg, Int.reduceBEq, Int.reduceBNe, Nat.reduceMul, Int.reduceAdd, Int.reduceMul, Int.reduceSub, Int.reduceEq, Int.reduceNe]
      · have c4' : s.pool.hi = 0 := by simpa using c4
        simp (config := { maxSteps := 400000 }) only [c4, go_sem, ↓reduceIte, reduceCtorEq, Nat.reduceEqDiff, Nat.reduceAdd, Nat.reduceLT, Nat.reduceLeDiff, Nat.reduceSub, Int.reduceToNat, Int.reduceLE, Int.reduceLT, Int.reduceNeg, Int.reduceBEq, Int.reduceBNe, Nat.reduceMul, Int.reduceAdd, Int.reduceMul, Int.reduceSub, Int.reduceEq, Int.reduceNe]
        have hlo : 1 = szLo s m := by unfold szLo; simp [c3', c4', c1']
        have hhi : 0 = szHi s l m := by unfold szHi; simp [c3', c4', c1']
        obtain ⟨k1, k2, k3, k4⟩ := key _ _ hlo hhi
        simp (config := { maxSteps := 400000 }) only [k1 (by decide), go_sem, ↓reduceIte, reduceCtorEq, Nat.reduceEqDiff, Nat.reduceAdd, Nat.reduceLT, Nat.reduceLeDiff, Nat.reduceSub, Int.reduceToNat, Int.reduceLE, Int.reduceLT, Int.reduceNeg, Int.reduceBEq, Int.reduceBNe, Nat.reduceMul, Int.reduceAdd, Int.reduceMul, Int.reduceSub, Int.reduceEq, Int.reduceNe]
    · have c3' : m.pool ≤ 0 := by simpa using c3
      simp (config := { maxSteps := 400000 }) only [c3, go_sem, ↓reduceIte, reduceCtorEq, Nat.reduceEqDiff, Nat.reduceAdd, Nat.reduceLT, Nat.reduceLeDiff, Nat.reduceSub, Int.reduceToNat, Int.reduceLE, Int.reduceLT, Int.reduceNeg, Int.reduceBEq, Int.reduceBNe, Nat.reduceMul, Int.reduceAdd, Int.reduceMul, Int.reduceSub, Int.reduceEq, Int.reduceNe]
      have hlo : 1 = szLo s m := by unfold szLo; simp [c3', c1']
      have hhi : 0 = szHi s l m := by unfold szHi; simp [c3', c1']
      obtain ⟨k1, k2, k3, k4⟩ := key _ _ hlo hhi
      simp (config := { maxSteps := 400000 }) only [k1 (by decide), go_sem, ↓reduceIte, reduceCtorEq, Nat.reduceEqDiff, Nat.reduceAdd, Nat.reduceLT, Nat.reduceLeDiff, Nat.reduceSub, Int.reduceToNat, Int.reduceLE, Int.reduceLT, Int.reduceNeg, Int.reduceBEq, Int.reduceBNe, Nat.reduceMul, Int.reduceAdd, Int.reduceMul, Int.reduceSub, Int.reduceEq, Int.reduceNe]

end Abs
end Go.Proofs.Ytdgmmijimclooaa
