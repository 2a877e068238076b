/-
  CONTRACTS: the laws HourChecks, HourTexts, HourKnown, HourRound, HourBoxes.
-/
import Derived.Test.YtdellinghbppgaaGreatDoorHrLaw0
namespace Go.Proofs.YtdellinghbppgaaGreatDoor
namespace Abs
set_option linter.unusedSimpArgs false
set_option linter.unusedVariables false
set_option maxRecDepth 100000

theorem lHourChecks (s : HrShop) : PCall Tryz.prog 3 [s.pv] (.bool true) := by
  refine pcall_of_wp draws (fn := Tryz.f3) (n := 37) (rs := [.tmp 2]) (by kernel_rfl) rfl rfl rfl ok3 (Nat.le_of_ble_eq_true rfl) ?_
  simp (maxSteps := 400000) only [go_sem, simprocAttr]
  (first | refine WF_pure (cHrCheck s) rfl ?_ | refine WDQ_pure (cHrCheck s) rfl ?_)
  simp (maxSteps := 400000) only [triple, go_sem, simprocAttr]
  (first | refine WF_pure (cRefHrCheck s) rfl ?_ | refine WDQ_pure (cRefHrCheck s) rfl ?_)
  simp (maxSteps := 400000) only [triple, beq_self_eq_true, go_sem, simprocAttr]
  (first | refine WF_pure (cAwake) rfl ?_ | refine WDQ_pure (cAwake) rfl ?_)
  simp (maxSteps := 400000) only [go_sem, simprocAttr]
theorem read_len (s : HrShop) (x : List UInt8) : (hrReadH s x).1.marks.length < 1000000000 := by
  by_cases h : (hrReadH s x).2 = 0
  · have := (testErr_ok (read_good h).2.1).1.len
    omega
  · rw [read_bad h]; simp [zeroTest]
theorem lHourTexts (s : HrShop) (t : HrTest) (x : List UInt8) : PCall Tryz.prog 4 [s.pv, t.pv, .str (bs x)] (.bool true) := by
  refine pcall_of_wp draws (fn := Tryz.f4) (n := 56) (rs := [.tmp 6]) (by kernel_rfl) rfl rfl rfl ok4 (Nat.le_of_ble_eq_true rfl) ?_
  simp (maxSteps := 400000) only [go_sem, simprocAttr]
  (first | refine WF_pure (cWrite s t) rfl ?_ | refine WDQ_pure (cWrite s t) rfl ?_)
  simp (maxSteps := 400000) only [go_sem, simprocAttr]
  (first | refine WF_pure (cRefWrite s t) rfl ?_ | refine WDQ_pure (cRefWrite s t) rfl ?_)
  have hb : ((hrWrite s t).1 == (hrWrite s t).1) = true := (baBeq _ _).2 rfl
  simp (maxSteps := 400000) only [hb, bne, beq_self_eq_true, go_sem, simprocAttr]
  (first | refine WF_pure (cRead s x) rfl ?_ | refine WDQ_pure (cRead s x) rfl ?_)
  simp (maxSteps := 400000) only [go_sem, simprocAttr]
  (first | refine WF_pure (cRefRead s x) rfl ?_ | refine WDQ_pure (cRefRead s x) rfl ?_)
  simp (maxSteps := 400000) only [go_sem, simprocAttr]
  refine WF_pure (cEqual _ _ (read_len s x)) rfl ?_
  simp (maxSteps := 400000) only [(eqT_iff _ _).2 rfl, beq_self_eq_true, go_sem, simprocAttr]
  (first | refine WF_pure (cAwake) rfl ?_ | refine WDQ_pure (cAwake) rfl ?_)
  simp (maxSteps := 400000) only [go_sem, simprocAttr]
theorem vOdd1 : hrOddR shopX oneX = ([], 0) := by kernel_rfl
theorem vOdd3 : hrOddR shopX (wo twoX 3) = ([0, 1, 2], 0) := by kernel_rfl
theorem vRates1 : hrRates shopX [oneX] 0 = (⟨3600, 4510⟩, 0) := by kernel_rfl
theorem vFits0 : hrFits shopX [oneX] 0 0 = (0, 0) := by kernel_rfl
theorem kOdd1 : PCall Tryz.prog 22 [shopX.pv, oneX.pv] (.tuple [.slice 1 [] false, .int .i64 0]) := by
  have h := cOdd shopX oneX
  rwa [vOdd1] at h
theorem kOdd3 : PCall Tryz.prog 22 [shopX.pv, (wo twoX 3).pv] (.tuple [.slice 1 [.int .i64 0, .int .i64 1, .int .i64 2] false, .int .i64 0]) := by
  have h := cOdd shopX (wo twoX 3)
  rwa [vOdd3] at h
theorem kRates1 : PCall Tryz.prog 27 [shopX.pv, .slice 3 [oneX.pv] true, .int .i64 0] (.tuple [.agg [.int .i64 3600, .int .i64 4510], .int .i64 0]) := by
  have h := (cRates shopX [oneX] 0).arglessD (args' := [shopX.pv, .slice 3 ([oneX].map HrTest.pv) true, .int .i64 0]) ⟨.refl _, tests_true _ true, .refl _, trivial⟩
  rwa [vRates1] at h
theorem kFits0 : PCall Tryz.prog 28 [shopX.pv, .slice 3 [oneX.pv] true, .int .i64 0, .int .i64 0] (.tuple [.int .i64 0, .int .i64 0]) := by
  have h := (cFitsHr shopX [oneX] 0 0).arglessD (args' := [shopX.pv, .slice 3 ([oneX].map HrTest.pv) true, .int .i64 0, .int .i64 0]) ⟨.refl _, tests_true _ true, .refl _, .refl _, trivial⟩
  rwa [vFits0] at h
set_option maxHeartbeats 4000000 in
theorem lHourKnown : PCall Tryz.prog 5 [] (.bool true) := by
  refine pcall_of_wp draws (fn := Tryz.f5) (n := 72) (rs := [.tmp 0]) (by kernel_rfl) rfl rfl rfl ok5 (Nat.le_of_ble_eq_true rfl) ?_
  simp (maxSteps := 400000) only [go_sem, simprocAttr]
  repeat' first
    | (refine WF_pure cShop rfl ?_; simp (maxSteps := 400000) only [go_sem, simprocAttr])
    | (refine WF_pure cOne rfl ?_; simp (maxSteps := 400000) only [go_sem, simprocAttr])
    | (refine WF_pure cTwo rfl ?_; simp (maxSteps := 400000) only [go_sem, simprocAttr])
    | (refine WF_pure kOdd1 rfl ?_; simp (maxSteps := 400000) only [go_sem, simprocAttr])
    | (refine WF_pure (cRefWithout twoX 3 (by decide) (by decide) (by decide)) rfl ?_; simp (maxSteps := 400000) only [go_sem, simprocAttr])
    | (refine WF_pure kOdd3 rfl ?_; simp (maxSteps := 400000) only [go_sem, simprocAttr])
    | (refine WF_pure kRates1 rfl ?_; simp (maxSteps := 400000) only [go_sem, simprocAttr])
    | (refine WF_pure kFits0 rfl ?_; simp (maxSteps := 400000) only [List.append_eq, go_sem, simprocAttr])
    | (refine WDQ_pure (kInts [0, 1, 2] false true (by decide)) rfl ?_; simp (maxSteps := 400000) only [List.append_eq, go_sem, simprocAttr])
    | (refine WDQ_pure (cSpan09 _ _) rfl ?_; simp (maxSteps := 400000) only [List.append_eq, go_sem, simprocAttr])
    | (refine WDQ_pure cAwake rfl ?_; simp (maxSteps := 400000) only [List.append_eq, go_sem, simprocAttr])
theorem open_of {s : HrShop} {t : HrTest} (h1 : (hrCheck s).2.2 = 0) (h2 : hrTestErr s.kinds.length t = 0) : hrOpen s [t] = 0 := by
  rw [hrOpen, if_pos h1, testsErr, if_pos h2]; rfl
theorem lHourRound (s : HrShop) (t : HrTest) (x : List UInt8) : PCall Tryz.prog 13 [s.pv, t.pv, .str (bs x)] (.bool true) := by
  refine pcall_of_wp draws (fn := Tryz.f13) (n := 69) (rs := [.tmp 6]) (by kernel_rfl) rfl rfl rfl ok13 (Nat.le_of_ble_eq_true rfl) ?_
  simp (maxSteps := 400000) only [go_sem, simprocAttr]
  (first | refine WF_pure (cWrite s t) rfl ?_ | refine WDQ_pure (cWrite s t) rfl ?_)
  simp (maxSteps := 400000) only [go_sem, simprocAttr]
  cases h0 : ((hrWrite s t).2 == 0)
  · simp (maxSteps := 400000) only [go_sem, simprocAttr]
    refine WF_pure (cRead s x) rfl ?_
    simp (maxSteps := 400000) only [go_sem, simprocAttr]
    cases hx : ((hrReadH s x).2 != 0)
    · have hx' : (hrReadH s x).2 = 0 := by simpa using hx
      have hg := read_good hx'
      have hw2 : hrWrite s (hrReadH s x).1 = (bs x, 0) := by rw [hrWrite, if_pos (open_of hg.1 hg.2.1), hg.2.2]
      simp (maxSteps := 400000) only [go_sem, simprocAttr]
      refine WF_pure (cWrite s (hrReadH s x).1) rfl ?_
      simp (maxSteps := 400000) only [hw2, (baBeq (bs x) (bs x)).2 rfl, go_sem, simprocAttr]
      (first | refine WF_pure (cAwake) rfl ?_ | refine WDQ_pure (cAwake) rfl ?_)
      simp (maxSteps := 400000) only [go_sem, simprocAttr]
    · have hx' : (hrReadH s x).2 ≠ 0 := by simpa using hx
      have hz := read_bad hx'
      simp (maxSteps := 400000) only [hz, go_sem, simprocAttr]
      refine WF_pure ((cEqual zeroTest zeroTest (by decide)).arglessD (args' := [zeroTest.pv, .agg [.int .i64 0, .int .i64 0, .nilslice]]) ⟨.refl _, nilTest 0 0, trivial⟩) rfl ?_
      simp (maxSteps := 400000) only [(eqT_iff zeroTest zeroTest).2 rfl, go_sem, simprocAttr]
      (first | refine WF_pure (cAwake) rfl ?_ | refine WDQ_pure (cAwake) rfl ?_)
      simp (maxSteps := 400000) only [go_sem, simprocAttr]
  · have h1 : hrOpen s [t] = 0 := by
      have : (hrWrite s t).2 = 0 := by simpa using h0
      unfold hrWrite at this
      split at this
      · assumption
      · contradiction
    have hok := open_ok h1
    have hw : hrWrite s t = (bs (textL s t), 0) := by rw [hrWrite, if_pos h1]
    have hrd := read_text hok.1 hok.2
    have htl := text_len hok.1 hok.2
    simp (maxSteps := 400000) only [hw, go_sem, simprocAttr]
    refine WF_pure (cRead s (textL s t)) rfl ?_
    simp (maxSteps := 400000) only [hrd, go_sem, simprocAttr]
    refine WF_pure (cEqual t t (by have := (testErr_ok hok.2).1.len; omega)) rfl ?_
    have hl : decide ((300 : Int) < ((bs (textL s t)).size : Int)) = false := by rw [bs_size]; simp; omega
    simp (maxSteps := 400000) only [(eqT_iff _ _).2 rfl, hl, go_sem, simprocAttr]
    refine WF_pure (cRead s x) rfl ?_
    simp (maxSteps := 400000) only [go_sem, simprocAttr]
    cases hx : ((hrReadH s x).2 != 0)
    · have hx' : (hrReadH s x).2 = 0 := by simpa using hx
      have hg := read_good hx'
      have hw2 : hrWrite s (hrReadH s x).1 = (bs x, 0) := by rw [hrWrite, if_pos (open_of hg.1 hg.2.1), hg.2.2]
      simp (maxSteps := 400000) only [go_sem, simprocAttr]
      refine WF_pure (cWrite s (hrReadH s x).1) rfl ?_
      simp (maxSteps := 400000) only [hw2, (baBeq (bs x) (bs x)).2 rfl, go_sem, simprocAttr]
      (first | refine WF_pure (cAwake) rfl ?_ | refine WDQ_pure (cAwake) rfl ?_)
      simp (maxSteps := 400000) only [go_sem, simprocAttr]
    · have hx' : (hrReadH s x).2 ≠ 0 := by simpa using hx
      have hz := read_bad hx'
      simp (maxSteps := 400000) only [hz, go_sem, simprocAttr]
      refine WF_pure ((cEqual zeroTest zeroTest (by decide)).arglessD (args' := [zeroTest.pv, .agg [.int .i64 0, .int .i64 0, .nilslice]]) ⟨.refl _, nilTest 0 0, trivial⟩) rfl ?_
      simp (maxSteps := 400000) only [(eqT_iff zeroTest zeroTest).2 rfl, go_sem, simprocAttr]
      (first | refine WF_pure (cAwake) rfl ?_ | refine WDQ_pure (cAwake) rfl ?_)
      simp (maxSteps := 400000) only [go_sem, simprocAttr]

/-! boxes -/
def wantGo (s : HrShop) (l : List HrTest) : Nat → List HrBox → List Int
  | _, [] => []
  | i, b :: r => (if (hrLook s l b.kind).1.promise < b.hours then [(i : Int)] else []) ++ wantGo s l (i + 1) r
theorem brokenGo_want {s : HrShop} {l : List HrTest} : ∀ (r : List HrBox) (i : Nat), (brokenGo s l i r).2 = 0 → (brokenGo s l i r).1 = wantGo s l i r ∧ ∀ b, b ∈ r → (hrLook s l b.kind).2 = 0
  | [], i, _ => ⟨rfl, fun b h => by cases h⟩
  | b :: r, i, h => by
    rw [brokenGo] at h ⊢
    split at h
    · rename_i h1
      split at h
      · rename_i h2
        obtain ⟨e1, e2⟩ := brokenGo_want r (i + 1) h2
        rw [if_pos h1, if_pos h2]
        refine ⟨by rw [wantGo, e1], fun q hq => ?_⟩
        rcases List.mem_cons.1 hq with rfl | hq
        · unfold boxErr at h1
          split at h1
          · split at h1
            · exact h1
            · cases h1
          · cases h1
        · exact e2 q hq
      · contradiction
    · contradiction
theorem brokenGo_bad {s : HrShop} {l : List HrTest} : ∀ (r : List HrBox) (i : Nat), (brokenGo s l i r).2 ≠ 0 → (brokenGo s l i r).1 = []
  | [], i, h => absurd rfl h
  | b :: r, i, h => by
    rw [brokenGo] at h ⊢
    split
    · split
      · rename_i h1 h2; rw [if_pos h1, if_pos h2] at h; exact absurd rfl h
      · rfl
    · rfl
set_option maxHeartbeats 2000000 in
theorem lHourBoxes (s : HrShop) (l : List HrTest) (boxes : List HrBox) : PCall Tryz.prog 12 [s.pv, .slice 3 (l.map HrTest.pv) false, .slice 2 (boxes.map HrBox.pv) false] (.bool true) := by
  refine pcall_of_wp draws (fn := Tryz.f12) (n := 79) (rs := [.tmp 6]) (by kernel_rfl) rfl rfl rfl ok12 (Nat.le_of_ble_eq_true rfl) ?_
  simp (maxSteps := 400000) only [go_sem, simprocAttr]
  (first | refine WF_pure (cBroken s l boxes) rfl ?_ | refine WDQ_pure (cBroken s l boxes) rfl ?_)
  simp (maxSteps := 400000) only [nums, go_sem, simprocAttr]
  cases h0 : ((hrBroken s l boxes).2 != 0)
  rotate_left
  · have h0' : (hrBroken s l boxes).2 ≠ 0 := by simpa using h0
    have hz : (hrBroken s l boxes).1 = [] := by
      unfold hrBroken at h0' ⊢
      split at h0'
      · rename_i h1
        split at h0'
        · rename_i h2; rw [if_pos h1, if_pos h2]
        · rename_i h2; rw [if_pos h1, if_neg h2]; exact brokenGo_bad _ _ h0'
      · rename_i h1; rw [if_neg h1]
    simp (maxSteps := 400000) only [hz, h0, go_sem, simprocAttr]
    (first | refine WF_pure (cAwake) rfl ?_ | refine WDQ_pure (cAwake) rfl ?_)
    simp (maxSteps := 400000) only [go_sem, simprocAttr]
  have h0' : (hrBroken s l boxes).2 = 0 := by simpa using h0
  obtain ⟨ht, h20, hgo⟩ : hrTests s l = 0 ∧ ¬ 20 < boxes.length ∧ hrBroken s l boxes = brokenGo s l 0 boxes := by
    unfold hrBroken at h0' ⊢
    split at h0'
    · rename_i h1
      split at h0'
      · cases h0'
      · rename_i h2; exact ⟨h1, h2, by rw [if_pos h1, if_neg h2]⟩
    · contradiction
  rw [hgo] at h0'
  obtain ⟨hw, hlk⟩ := brokenGo_want boxes 0 h0'
  have h20' : decide ((20 : Int) < (boxes.length : Int)) = false := by simp; omega
  simp (maxSteps := 400000) only [h20', go_sem, simprocAttr]
  (first | refine WF_pure (cRefTests s l false) rfl ?_ | refine WDQ_pure (cRefTests s l false) rfl ?_)
  simp (maxSteps := 400000) only [ht, hgo, hw, go_sem, simprocAttr]
  refine W_loop_nil 9 1 (by simp (maxSteps := 400000) only [go_sem, simprocAttr]) ?_
  simp (maxSteps := 400000) only [go_sem, simprocAttr]
  refine W_loopA [1, 2, 3, 7] (σ := List HrBox × List HrBox × List Int) (fun q => boxes = q.1 ++ q.2.1 ∧ wantGo s l 0 boxes = q.2.2 ++ wantGo s l q.1.length q.2.1 ∧ q.2.2.length ≤ q.1.length) (fun q => q.2.1.length)
    (fun q => [(9, .slice 1 q.2.2.length 0 q.2.2.length), (10, .p (.int .i64 q.1.length))]) (fun q => [.row 3 [.p s.pv], .row 1 (q.2.2.map fun n => .p (intPV n))]) ([], boxes, []) ⟨rfl, rfl, Nat.le_refl _⟩ ?_ ?_
  · simp (maxSteps := 400000) only [go_sem, simprocAttr]
  rintro ⟨done, rest, acc⟩ ⟨e1, e2, e3⟩
  dsimp only at e1 e2 e3
  cases rest with
  | nil =>
    have hlt : ¬ ((done.length : Int) < (boxes.length : Int)) := by rw [e1]; simp
    rw [wantGo, List.append_nil] at e2
    have hdl := congrArg List.length e1
    simp only [List.length_append, List.length_nil] at hdl
    simp (maxSteps := 400000) only [hlt, decide_false, e2, go_sem, simprocAttr]
    refine WF_frz (cNumsEq acc acc false false (by omega)) ?_ (.bool _) ?_
    · simp (maxSteps := 400000) only [go_sem, simprocAttr]
      rfl
    simp (maxSteps := 400000) only [beq_self_eq_true, go_sem, simprocAttr]
    (first | refine WF_pure (cAwake) rfl ?_ | refine WDQ_pure (cAwake) rfl ?_)
    simp (maxSteps := 400000) only [go_sem, simprocAttr]
  | cons b r =>
    obtain ⟨hx, hlt⟩ := list_at e1
    have hdl := congrArg List.length e1
    simp only [List.length_append, List.length_cons] at hdl
    have hnx : IntKind.i64.wrap ((done.length : Int) + 1) = (((done ++ [b]).length : Nat) : Int) := wrap_add (by omega) (by simp [room]; omega) (by simp)
    have hl0 := hlk b (by rw [e1]; simp)
    have hp : hrPromise s l b.kind = ((hrLook s l b.kind).1.promise, 0) := by rw [hrPromise, if_pos hl0]
    have hrm : acc.length + 1 ≤ room := by simp [room]; omega
    have hdn : (done ++ [b]).length = done.length + 1 := by simp
    rw [wantGo] at e2
    simp (maxSteps := 400000) only [hlt, decide_true, hx, go_sem, simprocAttr]
    refine WDQ_pure (cPromise s l b.kind) rfl ?_
    simp (maxSteps := 400000) only [hp, hlt, hx, go_sem, simprocAttr]
    cases h9 : decide ((hrLook s l b.kind).1.promise < b.hours)
    · have h9' : ¬ (hrLook s l b.kind).1.promise < b.hours := by simpa using h9
      rw [if_neg h9'] at e2
      simp (maxSteps := 400000) only [go_sem, simprocAttr]
      refine WQ_headA (done ++ [b], r, acc) ⟨by rw [e1]; simp, by rw [e2, hdn]; rfl, by simp; omega⟩ (Nat.lt_succ_self _) ?_
      simp (maxSteps := 400000) only [hnx, go_sem, simprocAttr]
    · have h9' : (hrLook s l b.kind).1.promise < b.hours := by simpa using h9
      rw [if_pos h9'] at e2
      simp (maxSteps := 400000) only [hrm, go_sem, simprocAttr]
      refine WQ_headA (done ++ [b], r, acc ++ [(done.length : Int)]) ⟨by rw [e1]; simp, by rw [e2, hdn]; simp, by simp; omega⟩ (Nat.lt_succ_self _) ?_
      simp (maxSteps := 400000) only [hnx, List.length_append, List.length_singleton, List.map_append, go_sem, simprocAttr]
end Abs
end Go.Proofs.YtdellinghbppgaaGreatDoor
