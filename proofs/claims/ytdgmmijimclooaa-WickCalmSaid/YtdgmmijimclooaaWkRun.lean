/-
  CONTRACTS: a shop that is looked at with a candle; how it burns.
-/
import Derived.Test.YtdgmmijimclooaaWkChk
namespace Go.Proofs.Ytdgmmijimclooaa
namespace Abs
set_option linter.unusedSimpArgs false
set_option maxRecDepth 4000

/-! ### what a checked shop is -/
structure WickOk (w : Wick) : Prop where
  t : 1 ≤ w.threads ∧ w.threads ≤ 100
  p : 1 ≤ w.pull.lo ∧ w.pull.lo ≤ w.pull.hi ∧ w.pull.hi ≤ 1000
structure WaxOk (x : Wax) : Prop where
  f : 1 ≤ x.flow.lo ∧ x.flow.lo ≤ x.flow.hi ∧ x.flow.hi ≤ 300
  r : 1 ≤ x.rise.lo ∧ x.rise.lo ≤ x.rise.hi ∧ x.rise.hi ≤ 1000
  s : 1 ≤ x.spread.lo ∧ x.spread.lo ≤ x.spread.hi ∧ x.spread.hi ≤ 2000
  c : 0 ≤ x.chill ∧ x.chill ≤ 50
structure ShopOk (s : Shop) : Prop where
  lw : 1 ≤ s.wicks.length ∧ s.wicks.length ≤ 12
  lx : 1 ≤ s.waxes.length ∧ s.waxes.length ≤ 6
  fl : 0 ≤ s.flame.lo ∧ s.flame.lo ≤ s.flame.hi ∧ s.flame.hi ≤ 2000
  po : 0 ≤ s.pool.lo ∧ s.pool.lo ≤ s.pool.hi ∧ s.pool.hi ≤ 2000
  w : ∀ w, w ∈ s.wicks → WickOk w
  x : ∀ x, x ∈ s.waxes → WaxOk x
def shopErr (s : Shop) : Int := (checkSpec s).2.2

theorem gIn_iff {n lo hi : Int} : gIn n lo hi = true ↔ lo ≤ n ∧ n ≤ hi := by simp [gIn]
theorem inS_iff {s : Span} {lo hi : Int} : inS s lo hi = true ↔ (lo ≤ s.lo ∧ s.lo ≤ hi) ∧ lo ≤ s.hi ∧ s.hi ≤ hi := by simp [inS, gIn]
theorem turned_iff {s : Span} : turnedS s = false ↔ s.lo ≤ s.hi := by simp [turnedS]
theorem namedErr_val (b : List ByteArray) (s : ByteArray) : namedErr b s = 0 ∨ namedErr b s = 5 ∨ namedErr b s = 6 := by
  unfold namedErr; split <;> (try split) <;> simp
theorem wickErr_ok {b : List ByteArray} {w : Wick} (h : wickErr b w = 0) : WickOk w := by
  unfold wickErr at h
  split at h
  · split at h
    · rename_i h1
      split at h
      · cases h
      · rename_i h2
        simp only [Bool.and_eq_true, gIn_iff, inS_iff] at h1
        rw [Bool.not_eq_true, turned_iff] at h2
        exact ⟨h1.1, h1.2.1.1, h2, h1.2.2.2⟩
    · cases h
  · rename_i h0; exact absurd h h0
theorem waxErr_ok {b : List ByteArray} {x : Wax} (h : waxErr b x = 0) : WaxOk x := by
  unfold waxErr at h
  split at h
  · split at h
    · rename_i h1
      split at h
      · cases h
      · rename_i h2
        simp only [Bool.and_eq_true, gIn_iff, inS_iff] at h1
        rw [Bool.not_eq_true] at h2
        simp only [Bool.or_eq_false_iff, turned_iff] at h2
        exact ⟨⟨h1.1.2.1.1, h2.1, h1.1.2.2.2⟩, ⟨h1.2.1.1.1, h2.2.1, h1.2.1.2.2⟩, ⟨h1.2.2.1.1, h2.2.2, h1.2.2.2.2⟩, h1.1.1⟩
    · cases h
  · rename_i h0; exact absurd h h0
theorem firstErr_none {α : Type} {f : List ByteArray → α → Int} {nm : α → ByteArray} : ∀ {l : List α} {b : List ByteArray}, firstErr f nm l b = none → ∀ x, x ∈ l → ∃ b, f b x = 0
  | [], _, _, x, hx => by cases hx
  | y :: r, b, h, x, hx => by
    unfold firstErr at h
    split at h
    · rename_i h0
      rcases List.mem_cons.1 hx with rfl | hx
      · exact ⟨b, h0⟩
      · exact firstErr_none h x hx
    · cases h
theorem firstErr_some {α : Type} {f : List ByteArray → α → Int} {nm : α → ByteArray} : ∀ {l : List α} {b : List ByteArray} {i e : Int}, firstErr f nm l b = some (i, e) → e ≠ 0
  | [], _, _, _, h => by cases h
  | y :: r, b, i, e, h => by
    unfold firstErr at h
    split at h
    · exact firstErr_some h
    · rename_i h0
      cases h; exact h0
theorem shopOk_of {s : Shop} (h : shopErr s = 0) : ShopOk s := by
  unfold shopErr checkSpec at h
  split at h
  · rename_i h1
    split at h
    · rename_i h2
      split at h
      · cases h
      · rename_i h3
        simp only [Bool.and_eq_true, gIn_iff, inS_iff] at h1 h2
        rw [Bool.not_eq_true] at h3
        simp only [Bool.or_eq_false_iff, turned_iff] at h3
        unfold checkTail at h
        split at h
        · rename_i i e hf
          exact absurd h (firstErr_some hf)
        · rename_i hf
          split at h
          · rename_i i e hg
            exact absurd h (firstErr_some hg)
          · rename_i hg
            refine ⟨by omega, by omega, ⟨h2.1.1.1, h3.1, h2.1.2.2⟩, ⟨h2.2.1.1, h3.2, h2.2.2.2⟩, fun w hw => ?_, fun x hx => ?_⟩
            · obtain ⟨b, hb⟩ := firstErr_none hf w hw; exact wickErr_ok hb
            · obtain ⟨b, hb⟩ := firstErr_none hg x hx; exact waxErr_ok hb
    · cases h
  · cases h

/-! ### what is asked -/
def candleErr (s : Shop) (c : Candle) : Int :=
  if gIn c.wax 0 ((s.waxes.length : Int) - 1) = true then (if (gIn c.diameter 1 2000 && (gIn c.draught 0 90 && inS c.cold 0 300)) = true then (if turnedS c.cold = true then 2 else 0) else 7) else 4
def askErr (s : Shop) (ks : List Int) (c : Candle) : Int :=
  if shopErr s = 0 then (if (ks.all fun k => gIn k 0 ((s.wicks.length : Int) - 1)) = true then candleErr s c else 4) else shopErr s
structure CandleOk (c : Candle) : Prop where
  d : 1 ≤ c.diameter ∧ c.diameter ≤ 2000
  g : 0 ≤ c.draught ∧ c.draught ≤ 90
  c : 0 ≤ c.cold.lo ∧ c.cold.lo ≤ c.cold.hi ∧ c.cold.hi ≤ 300
theorem candleOk_of {s : Shop} {c : Candle} (h : candleErr s c = 0) : CandleOk c ∧ 0 ≤ c.wax ∧ c.wax < s.waxes.length := by
  unfold candleErr at h
  split at h
  · rename_i h1
    split at h
    · rename_i h2
      split at h
      · cases h
      · rename_i h3
        simp only [Bool.and_eq_true, gIn_iff, inS_iff] at h1 h2
        rw [Bool.not_eq_true, turned_iff] at h3
        exact ⟨⟨h2.1, h2.2.1, h2.2.2.1.1, h3, h2.2.2.2.2⟩, h1.1, by omega⟩
    · cases h
  · cases h
theorem ask_ok {s : Shop} {ks : List Int} {c : Candle} (h : askErr s ks c = 0) : shopErr s = 0 ∧ candleErr s c = 0 ∧ ∀ k, k ∈ ks → 0 ≤ k ∧ k < s.wicks.length := by
  unfold askErr at h
  split at h
  · rename_i h1
    split at h
    · rename_i h2
      refine ⟨h1, h, fun k hk => ?_⟩
      have := List.all_eq_true.1 h2 k hk
      rw [gIn_iff] at this
      omega
    · cases h
  · rename_i h0; exact absurd h h0

theorem cRefCandle (s : Shop) (c : Candle) : PCall Try.prog 36 [s.pv, c.pv] (.int .i64 (askErr s [] c)) := by
  refine pcall_of_wp draws (fn := Try.f36) (n := 38) (rs := [.tmp 4]) (by kernel_rfl) rfl rfl rfl ok36 (Nat.le_of_ble_eq_true rfl) ?_
  simp (config := { maxSteps := 400000 }) only [go_sem, ↓reduceIte, reduceCtorEq, Nat.reduceEqDiff, Nat.reduceAdd, Nat.reduceLT, Nat.reduceLeDiff, Nat.reduceSub, Int.reduceToNat, Int.reduceLE, Int.reduceLT, Int.reduceNeg, Int.reduceBEq, Int.reduceBNe, Nat.reduceMul, Int.reduceAdd, Int.reduceMul, Int.reduceSub, Int.reduceEq, Int.reduceNe]
  refine WF_pure (cRefCheck s) rfl ?_
  simp (config := { maxSteps := 400000 }) only [triple, go_sem, ↓reduceIte, reduceCtorEq, Nat.reduceEqDiff, Nat.reduceAdd, Nat.reduceLT, Nat.reduceLeDiff, Nat.reduceSub, Int.reduceToNat, Int.reduceLE, Int.reduceLT, Int.reduceNeg, Int.reduceBEq, Int.reduceBNe, Nat.reduceMul, Int.reduceAdd, Int.reduceMul, Int.reduceSub, Int.reduceEq, Int.reduceNe]
  have hE : (checkSpec s).2.2 = shopErr s := rfl
  rw [hE]
  cases h0 : (shopErr s != 0)
  rotate_left
  · have h0' : ¬ shopErr s = 0 := by simpa using h0
    simp (config := { maxSteps := 400000 }) only [askErr, if_neg h0', go_sem, ↓reduceIte, reduceCtorEq, Nat.reduceEqDiff, Nat.reduceAdd, Nat.reduceLT, Nat.reduceLeDiff, Nat.reduceSub, Int.reduceToNat, Int.reduceLE, Int.reduceLT, Int.reduceNeg, Int.reduceBEq, Int.reduceBNe, Nat.reduceMul, Int.reduceAdd, Int.reduceMul, Int.reduceSub, Int.reduceEq, Int.reduceNe]
  have h0' : shopErr s = 0 := by simpa using h0
  have ok := shopOk_of h0'
  have hw : IntKind.i64.wrap ((s.waxes.length : Int) - 1) = (s.waxes.length : Int) - 1 := wrap_in (by omega) (by have := ok.lx; omega)
  have hA : askErr s [] c = candleErr s c := by simp [askErr, h0']
  rw [hA]
  simp (config := { maxSteps := 400000 }) only [hw, go_sem, ↓reduceIte, reduceCtorEq, Nat.reduceEqDiff, Nat.reduceAdd, Nat.reduceLT, Nat.reduceLeDiff, Nat.reduceSub, Int.reduceToNat, Int.reduceLE, Int.reduceLT, Int.reduceNeg, Int.reduceBEq, Int.reduceBNe, Nat.reduceMul, Int.reduceAdd, Int.reduceMul, Int.reduceSub, Int.reduceEq, Int.reduceNe]
  refine WF_pure (cIn1 _ _ _) rfl ?_
  simp (config := { maxSteps := 400000 }) only [go_sem, ↓reduceIte, reduceCtorEq, Nat.reduceEqDiff, Nat.reduceAdd, Nat.reduceLT, Nat.reduceLeDiff, Nat.reduceSub, Int.reduceToNat, Int.reduceLE, Int.reduceLT, Int.reduceNeg, Int.reduceBEq, Int.reduceBNe, Nat.reduceMul, Int.reduceAdd, Int.reduceMul, Int.reduceSub, Int.reduceEq, Int.reduceNe]
  cases h1 : gIn c.wax 0 ((s.waxes.length : Int) - 1)
  · simp (config := { maxSteps := 400000 }) only [candleErr, h1, go_sem, ↓reduceIte, reduceCtorEq, Nat.reduceEqDiff, Nat.reduceAdd, Nat.reduceLT, Nat.reduceLeDiff, Nat.reduceSub, Int.reduceToNat, Int.reduceLE, Int.reduceLT, Int.reduceNeg, Int.reduceBEq, Int.reduceBNe, Nat.reduceMul, Int.reduceAdd, Int.reduceMul, Int.reduceSub, Int.reduceEq, Int.reduceNe]
  simp (config := { maxSteps := 400000 }) only [go_sem, ↓reduceIte, reduceCtorEq, Nat.reduceEqDiff, Nat.reduceAdd, Nat.reduceLT, Nat.reduceLeDiff, Nat.reduceSub, Int.reduceToNat, Int.reduceLE, Int.reduceLT, Int.reduceNeg, Int.reduceBEq, Int.reduceBNe, Nat.reduceMul, Int.reduceAdd, Int.reduceMul, Int.reduceSub, Int.reduceEq, Int.reduceNe]
  refine WF_pure (cIn1 _ _ _) rfl ?_
  simp (config := { maxSteps := 400000 }) only [go_sem, ↓reduceIte, reduceCtorEq, Nat.reduceEqDiff, Nat.reduceAdd, Nat.reduceLT, Nat.reduceLeDiff, Nat.reduceSub, Int.reduceToNat, Int.reduceLE, Int.reduceLT, Int.reduceNeg, Int.reduceBEq, Int.reduceBNe, Nat.reduceMul, Int.reduceAdd, Int.reduceMul, Int.reduceSub, Int.reduceEq, Int.reduceNe]
  cases h2 : gIn c.diameter 1 2000
  · simp (config := { maxSteps := 400000 }) only [candleErr, h1, h2, go_sem, ↓reduceIte, reduceCtorEq, Nat.reduceEqDiff, Nat.reduceAdd, Nat.reduceLT, Nat.reduceLeDiff, Nat.reduceSub, Int.reduceToNat, Int.reduceLE, Int.reduceLT, Int.reduceNeg, Int.reduceBEq, Int.reduceBNe, Nat.reduceMul, Int.reduceAdd, Int.reduceMul, Int.reduceSub, Int.reduceEq, Int.reduceNe]
  simp (config := { maxSteps := 400000 }) only [go_sem, ↓reduceIte, reduceCtorEq, Nat.reduceEqDiff, Nat.reduceAdd, Nat.reduceLT, Nat.reduceLeDiff, Nat.reduceSub, Int.reduceToNat, Int.reduceLE, Int.reduceLT, Int.reduceNeg, Int.reduceBEq, Int.reduceBNe, Nat.reduceMul, Int.reduceAdd, Int.reduceMul, Int.reduceSub, Int.reduceEq, Int.reduceNe]
  refine WF_pure (cIn1 _ _ _) rfl ?_
  simp (config := { maxSteps := 400000 }) only [go_sem, ↓reduceIte, reduceCtorEq, Nat.reduceEqDiff, Nat.reduceAdd, Nat.reduceLT, Nat.reduceLeDiff, Nat.reduceSub, Int.reduceToNat, Int.reduceLE, Int.reduceLT, Int.reduceNeg, Int.reduceBEq, Int.reduceBNe, Nat.reduceMul, Int.reduceAdd, Int.reduceMul, Int.reduceSub, Int.reduceEq, Int.reduceNe]
  cases h3 : gIn c.draught 0 90
  · simp (config := { maxSteps := 400000 }) only [candleErr, h1, h2, h3, go_sem, ↓reduceIte, reduceCtorEq, Nat.reduceEqDiff, Nat.reduceAdd, Nat.reduceLT, Nat.reduceLeDiff, Nat.reduceSub, Int.reduceToNat, Int.reduceLE, Int.reduceLT, Int.reduceNeg, Int.reduceBEq, Int.reduceBNe, Nat.reduceMul, Int.reduceAdd, Int.reduceMul, Int.reduceSub, Int.reduceEq, Int.reduceNe]
  simp (config := { maxSteps := 400000 }) only [go_sem, ↓reduceIte, reduceCtorEq, Nat.reduceEqDiff, Nat.reduceAdd, Nat.reduceLT, Nat.reduceLeDiff, Nat.reduceSub, Int.reduceToNat, Int.reduceLE, Int.reduceLT, Int.reduceNeg, Int.reduceBEq, Int.reduceBNe, Nat.reduceMul, Int.reduceAdd, Int.reduceMul, Int.reduceSub, Int.reduceEq, Int.reduceNe]
  refine WF_pure (cSpan _ _ _ _) rfl ?_
  simp (config := { maxSteps := 400000 }) only [gSpan_inS, candleErr, h1, h2, h3, go_sem, ↓reduceIte, reduceCtorEq, Nat.reduceEqDiff, Nat.reduceAdd, Nat.reduceLT, Nat.reduceLeDiff, Nat.reduceSub, Int.reduceToNat, Int.reduceLE, Int.reduceLT, Int.reduceNeg, Int.reduceBEq, Int.reduceBNe, Nat.reduceMul, Int.reduceAdd, Int.reduceMul, Int.reduceSub, Int.reduceEq, Int.reduceNe]

theorem cRefAsked (s : Shop) (k : Int) (c : Candle) : PCall Try.prog 57 [s.pv, .int .i64 k, c.pv] (.int .i64 (askErr s [k] c)) := by
  refine pcall_of_wp draws (fn := Try.f57) (n := 33) (rs := [.tmp 6]) (by kernel_rfl) rfl rfl rfl ok57 (Nat.le_of_ble_eq_true rfl) ?_
  simp (config := { maxSteps := 400000 }) only [go_sem, ↓reduceIte, reduceCtorEq, Nat.reduceEqDiff, Nat.reduceAdd, Nat.reduceLT, Nat.reduceLeDiff, Nat.reduceSub, Int.reduceToNat, Int.reduceLE, Int.reduceLT, Int.reduceNeg, Int.reduceBEq, Int.reduceBNe, Nat.reduceMul, Int.reduceAdd, Int.reduceMul, Int.reduceSub, Int.reduceEq, Int.reduceNe]
  refine WF_pure (cRefCheck s) rfl ?_
  simp (config := { maxSteps := 400000 }) only [triple, go_sem, ↓reduceIte, reduceCtorEq, Nat.reduceEqDiff, Nat.reduceAdd, Nat.reduceLT, Nat.reduceLeDiff, Nat.reduceSub, Int.reduceToNat, Int.reduceLE, Int.reduceLT, Int.reduceNeg, Int.reduceBEq, Int.reduceBNe, Nat.reduceMul, Int.reduceAdd, Int.reduceMul, Int.reduceSub, Int.reduceEq, Int.reduceNe]
  have hE : (checkSpec s).2.2 = shopErr s := rfl
  rw [hE]
  cases h0 : (shopErr s == 0)
  · have h0' : ¬ shopErr s = 0 := by simpa using h0
    simp (config := { maxSteps := 400000 }) only [h0, askErr, if_neg h0', go_sem, ↓reduceIte, reduceCtorEq, Nat.reduceEqDiff, Nat.reduceAdd, Nat.reduceLT, Nat.reduceLeDiff, Nat.reduceSub, Int.reduceToNat, Int.reduceLE, Int.reduceLT, Int.reduceNeg, Int.reduceBEq, Int.reduceBNe, Nat.reduceMul, Int.reduceAdd, Int.reduceMul, Int.reduceSub, Int.reduceEq, Int.reduceNe]
  have h0' : shopErr s = 0 := by simpa using h0
  have ok := shopOk_of h0'
  have hw : IntKind.i64.wrap ((s.wicks.length : Int) - 1) = (s.wicks.length : Int) - 1 := wrap_in (by omega) (by have := ok.lw; omega)
  simp (config := { maxSteps := 400000 }) only [hw, go_sem, ↓reduceIte, reduceCtorEq, Nat.reduceEqDiff, Nat.reduceAdd, Nat.reduceLT, Nat.reduceLeDiff, Nat.reduceSub, Int.reduceToNat, Int.reduceLE, Int.reduceLT, Int.reduceNeg, Int.reduceBEq, Int.reduceBNe, Nat.reduceMul, Int.reduceAdd, Int.reduceMul, Int.reduceSub, Int.reduceEq, Int.reduceNe]
  refine WF_pure (cIn1 _ _ _) rfl ?_
  simp (config := { maxSteps := 400000 }) only [go_sem, ↓reduceIte, reduceCtorEq, Nat.reduceEqDiff, Nat.reduceAdd, Nat.reduceLT, Nat.reduceLeDiff, Nat.reduceSub, Int.reduceToNat, Int.reduceLE, Int.reduceLT, Int.reduceNeg, Int.reduceBEq, Int.reduceBNe, Nat.reduceMul, Int.reduceAdd, Int.reduceMul, Int.reduceSub, Int.reduceEq, Int.reduceNe]
  cases h1 : gIn k 0 ((s.wicks.length : Int) - 1)
  · simp (config := { maxSteps := 400000 }) only [askErr, h0', h1, List.all_cons, go_sem, ↓reduceIte, reduceCtorEq, Nat.reduceEqDiff, Nat.reduceAdd, Nat.reduceLT, Nat.reduceLeDiff, Nat.reduceSub, Int.reduceToNat, Int.reduceLE, Int.reduceLT, Int.reduceNeg, Int.reduceBEq, Int.reduceBNe, Nat.reduceMul, Int.reduceAdd, Int.reduceMul, Int.reduceSub, Int.reduceEq, Int.reduceNe]
  simp (config := { maxSteps := 400000 }) only [h0, go_sem, ↓reduceIte, reduceCtorEq, Nat.reduceEqDiff, Nat.reduceAdd, Nat.reduceLT, Nat.reduceLeDiff, Nat.reduceSub, Int.reduceToNat, Int.reduceLE, Int.reduceLT, Int.reduceNeg, Int.reduceBEq, Int.reduceBNe, Nat.reduceMul, Int.reduceAdd, Int.reduceMul, Int.reduceSub, Int.reduceEq, Int.reduceNe]
  refine WF_pure (cRefCandle s c) rfl ?_
  simp (config := { maxSteps := 400000 }) only [askErr, h0', h1, List.all_cons, List.all_nil, go_sem, ↓reduceIte, reduceCtorEq, Nat.reduceEqDiff, Nat.reduceAdd, Nat.reduceLT, Nat.reduceLeDiff, Nat.reduceSub, Int.reduceToNat, Int.reduceLE, Int.reduceLT, Int.reduceNeg, Int.reduceBEq, Int.reduceBNe, Nat.reduceMul, Int.reduceAdd, Int.reduceMul, Int.reduceSub, Int.reduceEq, Int.reduceNe]

/-- a shop that is looked at -/
def openPV (s : Shop) (c : Candle) (x : Wax) : PV := .ptr 19 [.agg (s.pv.cells ++ c.pv.cells ++ x.pv.cells)] 0 0
attribute [go_sem] openPV
theorem any_not_all (l : List Int) (lo hi : Int) : (l.any fun n => !gIn n lo hi) = !(l.all fun n => gIn n lo hi) := by rw [← List.not_all_eq_any_not]

theorem cOpen (s : Shop) (c : Candle) (ks : List Int) (b : Bool) (xs : List PV) (hxs : xs = ks.map intPV) (hks : ks.length < 1000000) (x : Wax) (hx : askErr s ks c = 0 → s.waxes[c.wax.toNat]? = some x) :
    PCall Try.prog 54 [s.pv, c.pv, .slice 1 xs b] (.tuple [if askErr s ks c = 0 then openPV s c x else .nilptr, .int .i64 (askErr s ks c)]) := by
  subst hxs
  refine pcall_of_wp_frz draws (fn := Try.f54) (n := 74) (rs := [.tmp 6, .tmp 7]) (by kernel_rfl) rfl rfl rfl ok54 (Nat.le_of_ble_eq_true rfl) ?_
  simp (config := { maxSteps := 400000 }) only [go_sem, ↓reduceIte, reduceCtorEq, Nat.reduceEqDiff, Nat.reduceAdd, Nat.reduceLT, Nat.reduceLeDiff, Nat.reduceSub, Int.reduceToNat, Int.reduceLE, Int.reduceLT, Int.reduceNeg, Int.reduceBEq, Int.reduceBNe, Nat.reduceMul, Int.reduceAdd, Int.reduceMul, Int.reduceSub, Int.reduceEq, Int.reduceNe]
  refine WF_pure (cCheck s) rfl ?_
  simp (config := { maxSteps := 400000 }) only [triple, go_sem, ↓reduceIte, reduceCtorEq, Nat.reduceEqDiff, Nat.reduceAdd, Nat.reduceLT, Nat.reduceLeDiff, Nat.reduceSub, Int.reduceToNat, Int.reduceLE, Int.reduceLT, Int.reduceNeg, Int.reduceBEq, Int.reduceBNe, Nat.reduceMul, Int.reduceAdd, Int.reduceMul, Int.reduceSub, Int.reduceEq, Int.reduceNe]
  have hE : (checkSpec s).2.2 = shopErr s := rfl
  rw [hE]
  cases h0 : (shopErr s != 0)
  rotate_left
  · have h0' : ¬ shopErr s = 0 := by simpa using h0
    simp (config := { maxSteps := 400000 }) only [askErr, if_neg h0', go_sem, ↓reduceIte, reduceCtorEq, Nat.reduceEqDiff, Nat.reduceAdd, Nat.reduceLT, Nat.reduceLeDiff, Nat.reduceSub, Int.reduceToNat, Int.reduceLE, Int.reduceLT, Int.reduceNeg, Int.reduceBEq, Int.reduceBNe, Nat.reduceMul, Int.reduceAdd, Int.reduceMul, Int.reduceSub, Int.reduceEq, Int.reduceNe]
  have h0' : shopErr s = 0 := by simpa using h0
  have ok := shopOk_of h0'
  have hw1 : IntKind.i64.wrap ((s.wicks.length : Int) - 1) = (s.wicks.length : Int) - 1 := wrap_in (by omega) (by have := ok.lw; omega)
  have hw2 : IntKind.i64.wrap ((s.waxes.length : Int) - 1) = (s.waxes.length : Int) - 1 := wrap_in (by omega) (by have := ok.lx; omega)
  have hA : askErr s ks c = if (ks.all fun k => gIn k 0 ((s.wicks.length : Int) - 1)) = true then candleErr s c else 4 := by simp only [askErr, if_pos h0']
  rw [hA] at hx ⊢
  simp (config := { maxSteps := 400000 }) only [hw1, go_sem, ↓reduceIte, reduceCtorEq, Nat.reduceEqDiff, Nat.reduceAdd, Nat.reduceLT, Nat.reduceLeDiff, Nat.reduceSub, Int.reduceToNat, Int.reduceLE, Int.reduceLT, Int.reduceNeg, Int.reduceBEq, Int.reduceBNe, Nat.reduceMul, Int.reduceAdd, Int.reduceMul, Int.reduceSub, Int.reduceEq, Int.reduceNe]
  refine WF_pure (cOut 0 ((s.wicks.length : Int) - 1) ks b (by omega)) rfl ?_
  simp (config := { maxSteps := 400000 }) only [go_sem, ↓reduceIte, reduceCtorEq, Nat.reduceEqDiff, Nat.reduceAdd, Nat.reduceLT, Nat.reduceLeDiff, Nat.reduceSub, Int.reduceToNat, Int.reduceLE, Int.reduceLT, Int.reduceNeg, Int.reduceBEq, Int.reduceBNe, Nat.reduceMul, Int.reduceAdd, Int.reduceMul, Int.reduceSub, Int.reduceEq, Int.reduceNe]
  rw [any_not_all]
  cases h1 : (ks.all fun k => gIn k 0 ((s.wicks.length : Int) - 1))
  · simp (config := { maxSteps := 400000 }) only [go_sem, ↓reduceIte, reduceCtorEq, Nat.reduceEqDiff, Nat.reduceAdd, Nat.reduceLT, Nat.reduceLeDiff, Nat.reduceSub, Int.reduceToNat, Int.reduceLE, Int.reduceLT, Int.reduceNeg, Int.reduceBEq, Int.reduceBNe, Nat.reduceMul, Int.reduceAdd, Int.reduceMul, Int.reduceSub, Int.reduceEq, Int.reduceNe]
  rw [h1, if_pos rfl] at hx
  simp (config := { maxSteps := 400000 }) only [hw2, go_sem, ↓reduceIte, reduceCtorEq, Nat.reduceEqDiff, Nat.reduceAdd, Nat.reduceLT, Nat.reduceLeDiff, Nat.reduceSub, Int.reduceToNat, Int.reduceLE, Int.reduceLT, Int.reduceNeg, Int.reduceBEq, Int.reduceBNe, Nat.reduceMul, Int.reduceAdd, Int.reduceMul, Int.reduceSub, Int.reduceEq, Int.reduceNe]
  refine WF_pure (cOut 0 ((s.waxes.length : Int) - 1) [_] true (by simp)) rfl ?_
  simp (config := { maxSteps := 400000 }) only [List.any_cons, List.any_nil, go_sem, ↓reduceIte, reduceCtorEq, Nat.reduceEqDiff, Nat.reduceAdd, Nat.reduceLT, Nat.reduceLeDiff, Nat.reduceSub, Int.reduceToNat, Int.reduceLE, Int.reduceLT, Int.reduceNeg, Int.reduceBEq, Int.reduceBNe, Nat.reduceMul, Int.reduceAdd, Int.reduceMul, Int.reduceSub, Int.reduceEq, Int.reduceNe]
  cases h2 : gIn c.wax 0 ((s.waxes.length : Int) - 1)
  · simp (config := { maxSteps := 400000 }) only [candleErr, h2, go_sem, ↓reduceIte, reduceCtorEq, Nat.reduceEqDiff, Nat.reduceAdd, Nat.reduceLT, Nat.reduceLeDiff, Nat.reduceSub, Int.reduceToNat, Int.reduceLE, Int.reduceLT, Int.reduceNeg, Int.reduceBEq, Int.reduceBNe, Nat.reduceMul, Int.reduceAdd, Int.reduceMul, Int.reduceSub, Int.reduceEq, Int.reduceNe]
  simp (config := { maxSteps := 400000 }) only [go_sem, ↓reduceIte, reduceCtorEq, Nat.reduceEqDiff, Nat.reduceAdd, Nat.reduceLT, Nat.reduceLeDiff, Nat.reduceSub, Int.reduceToNat, Int.reduceLE, Int.reduceLT, Int.reduceNeg, Int.reduceBEq, Int.reduceBNe, Nat.reduceMul, Int.reduceAdd, Int.reduceMul, Int.reduceSub, Int.reduceEq, Int.reduceNe]
  refine WF_pure (cOut 1 2000 [_] true (by simp)) rfl ?_
  simp (config := { maxSteps := 400000 }) only [List.any_cons, List.any_nil, go_sem, ↓reduceIte, reduceCtorEq, Nat.reduceEqDiff, Nat.reduceAdd, Nat.reduceLT, Nat.reduceLeDiff, Nat.reduceSub, Int.reduceToNat, Int.reduceLE, Int.reduceLT, Int.reduceNeg, Int.reduceBEq, Int.reduceBNe, Nat.reduceMul, Int.reduceAdd, Int.reduceMul, Int.reduceSub, Int.reduceEq, Int.reduceNe]
  cases h3 : gIn c.diameter 1 2000
  · simp (config := { maxSteps := 400000 }) only [candleErr, h2, h3, go_sem, ↓reduceIte, reduceCtorEq, Nat.reduceEqDiff, Nat.reduceAdd, Nat.reduceLT, Nat.reduceLeDiff, Nat.reduceSub, Int.reduceToNat, Int.reduceLE, Int.reduceLT, Int.reduceNeg, Int.reduceBEq, Int.reduceBNe, Nat.reduceMul, Int.reduceAdd, Int.reduceMul, Int.reduceSub, Int.reduceEq, Int.reduceNe]
  simp (config := { maxSteps := 400000 }) only [go_sem, ↓reduceIte, reduceCtorEq, Nat.reduceEqDiff, Nat.reduceAdd, Nat.reduceLT, Nat.reduceLeDiff, Nat.reduceSub, Int.reduceToNat, Int.reduceLE, Int.reduceLT, Int.reduceNeg, Int.reduceBEq, Int.reduceBNe, Nat.reduceMul, Int.reduceAdd, Int.reduceMul, Int.reduceSub, Int.reduceEq, Int.reduceNe]
  refine WF_pure (cOut 0 90 [_] true (by simp)) rfl ?_
  simp (config := { maxSteps := 400000 }) only [List.any_cons, List.any_nil, go_sem, ↓reduceIte, reduceCtorEq, Nat.reduceEqDiff, Nat.reduceAdd, Nat.reduceLT, Nat.reduceLeDiff, Nat.reduceSub, Int.reduceToNat, Int.reduceLE, Int.reduceLT, Int.reduceNeg, Int.reduceBEq, Int.reduceBNe, Nat.reduceMul, Int.reduceAdd, Int.reduceMul, Int.reduceSub, Int.reduceEq, Int.reduceNe]
  cases h4 : gIn c.draught 0 90
  · simp (config := { maxSteps := 400000 }) only [candleErr, h2, h3, h4, go_sem, ↓reduceIte, reduceCtorEq, Nat.reduceEqDiff, Nat.reduceAdd, Nat.reduceLT, Nat.reduceLeDiff, Nat.reduceSub, Int.reduceToNat, Int.reduceLE, Int.reduceLT, Int.reduceNeg, Int.reduceBEq, Int.reduceBNe, Nat.reduceMul, Int.reduceAdd, Int.reduceMul, Int.reduceSub, Int.reduceEq, Int.reduceNe]
  simp (config := { maxSteps := 400000 }) only [go_sem, ↓reduceIte, reduceCtorEq, Nat.reduceEqDiff, Nat.reduceAdd, Nat.reduceLT, Nat.reduceLeDiff, Nat.reduceSub, Int.reduceToNat, Int.reduceLE, Int.reduceLT, Int.reduceNeg, Int.reduceBEq, Int.reduceBNe, Nat.reduceMul, Int.reduceAdd, Int.reduceMul, Int.reduceSub, Int.reduceEq, Int.reduceNe]
  refine WF_pure (cOut 0 300 [_, _] true (by simp)) rfl ?_
  simp (config := { maxSteps := 400000 }) only [List.any_cons, List.any_nil, ← Bool.not_and, go_sem, ↓reduceIte, reduceCtorEq, Nat.reduceEqDiff, Nat.reduceAdd, Nat.reduceLT, Nat.reduceLeDiff, Nat.reduceSub, Int.reduceToNat, Int.reduceLE, Int.reduceLT, Int.reduceNeg, Int.reduceBEq, Int.reduceBNe, Nat.reduceMul, Int.reduceAdd, Int.reduceMul, Int.reduceSub, Int.reduceEq, Int.reduceNe]
  cases h5 : (gIn c.cold.lo 0 300 && gIn c.cold.hi 0 300)
  · simp (config := { maxSteps := 400000 }) only [candleErr, h2, h3, h4, inS, h5, go_sem, ↓reduceIte, reduceCtorEq, Nat.reduceEqDiff, Nat.reduceAdd, Nat.reduceLT, Nat.reduceLeDiff, Nat.reduceSub, Int.reduceToNat, Int.reduceLE, Int.reduceLT, Int.reduceNeg, Int.reduceBEq, Int.reduceBNe, Nat.reduceMul, Int.reduceAdd, Int.reduceMul, Int.reduceSub, Int.reduceEq, Int.reduceNe]
  simp (config := { maxSteps := 400000 }) only [go_sem, ↓reduceIte, reduceCtorEq, Nat.reduceEqDiff, Nat.reduceAdd, Nat.reduceLT, Nat.reduceLeDiff, Nat.reduceSub, Int.reduceToNat, Int.reduceLE, Int.reduceLT, Int.reduceNeg, Int.reduceBEq, Int.reduceBNe, Nat.reduceMul, Int.reduceAdd, Int.reduceMul, Int.reduceSub, Int.reduceEq, Int.reduceNe]
  refine WF_pure (cTurned [c.cold] true (by simp)) rfl ?_
  simp (config := { maxSteps := 400000 }) only [List.any_cons, List.any_nil, go_sem, ↓reduceIte, reduceCtorEq, Nat.reduceEqDiff, Nat.reduceAdd, Nat.reduceLT, Nat.reduceLeDiff, Nat.reduceSub, Int.reduceToNat, Int.reduceLE, Int.reduceLT, Int.reduceNeg, Int.reduceBEq, Int.reduceBNe, Nat.reduceMul, Int.reduceAdd, Int.reduceMul, Int.reduceSub, Int.reduceEq, Int.reduceNe]
  cases h6 : decide (c.cold.hi < c.cold.lo)
  rotate_left
  · simp (config := { maxSteps := 400000 }) only [candleErr, h2, h3, h4, inS, h5, turnedS, h6, go_sem, ↓reduceIte, reduceCtorEq, Nat.reduceEqDiff, Nat.reduceAdd, Nat.reduceLT, Nat.reduceLeDiff, Nat.reduceSub, Int.reduceToNat, Int.reduceLE, Int.reduceLT, Int.reduceNeg, Int.reduceBEq, Int.reduceBNe, Nat.reduceMul, Int.reduceAdd, Int.reduceMul, Int.reduceSub, Int.reduceEq, Int.reduceNe]
  have hc : candleErr s c = 0 := by simp only [candleErr, h2, h3, h4, inS, h5, turnedS, h6]; rfl
  have hxx := hx hc
  obtain ⟨_, hc0, hc1⟩ := candleOk_of hc
  simp (config := { maxSteps := 400000 }) only [hc, hc0, hc1, hxx, go_sem, ↓reduceIte, reduceCtorEq, Nat.reduceEqDiff, Nat.reduceAdd, Nat.reduceLT, Nat.reduceLeDiff, Nat.reduceSub, Int.reduceToNat, Int.reduceLE, Int.reduceLT, Int.reduceNeg, Int.reduceBEq, Int.reduceBNe, Nat.reduceMul, Int.reduceAdd, Int.reduceMul, Int.reduceSub, Int.reduceEq, Int.reduceNe]

end Abs
end Go.Proofs.Ytdgmmijimclooaa
