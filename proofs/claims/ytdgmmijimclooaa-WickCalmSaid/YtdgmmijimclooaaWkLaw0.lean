/-
  CONTRACTS: the helpers of the laws: the examples' data, lists that are equal, numbers of a range.
-/
import Derived.Test.YtdgmmijimclooaaWkSiz
import Derived.Test.YtdgmmijimclooaaAbsInv
namespace Go.Proofs.Ytdgmmijimclooaa
namespace Abs
set_option linter.unusedSimpArgs false
set_option maxRecDepth 4000

theorem cLawSpan (a b : Int) : PCall Try.prog 35 [.int .i64 a, .int .i64 b] (.agg [.int .i64 a, .int .i64 b]) := by
  refine pcall_of_wp draws (fn := Try.f35) (n := 8) (rs := [.cell 4 25]) (by kernel_rfl) rfl rfl rfl ok35 (Nat.le_of_ble_eq_true rfl) ?_
  simp (config := { maxSteps := 400000 }) only [go_sem, ↓reduceIte, reduceCtorEq, Nat.reduceEqDiff, Nat.reduceAdd, Nat.reduceLT, Nat.reduceLeDiff, Nat.reduceSub, Int.reduceToNat, Int.reduceLE, Int.reduceLT, Int.reduceNeg, Int.reduceBEq, Int.reduceBNe, Nat.reduceMul, Int.reduceAdd, Int.reduceMul, Int.reduceSub, Int.reduceEq, Int.reduceNe]
def shopX : Shop := ⟨[⟨⟨#[116, 104, 105, 110]⟩, 10, ⟨16, 18⟩⟩, ⟨⟨#[109, 105, 100]⟩, 14, ⟨20, 24⟩⟩, ⟨⟨#[102, 97, 116]⟩, 20, ⟨30, 36⟩⟩], [⟨⟨#[98, 101, 101, 115]⟩, ⟨100, 100⟩, ⟨150, 160⟩, ⟨1000, 1100⟩, 1⟩], ⟨20, 45⟩, ⟨500, 1000⟩⟩
def sizedX (d : Int) : Candle := ⟨0, d, 10, ⟨0, 20⟩⟩
theorem cShop : PCall Try.prog 32 [] shopX.pv := by
  refine PCall.lessC (a := [.slice 4 (shopX.wicks.map Wick.pv) true, .slice 8 (shopX.waxes.map Wax.pv) true, .int .i64 20, .int .i64 45, .int .i64 500, .int .i64 1000]) ?_ ?_
  · refine pcall_of_wp draws (fn := Try.f32) (n := 16) (rs := [.cell 0 27]) (by kernel_rfl) rfl rfl rfl ok32 (Nat.le_of_ble_eq_true rfl) ?_
    simp (config := { maxSteps := 400000 }) only [go_sem, ↓reduceIte, reduceCtorEq, Nat.reduceEqDiff, Nat.reduceAdd, Nat.reduceLT, Nat.reduceLeDiff, Nat.reduceSub, Int.reduceToNat, Int.reduceLE, Int.reduceLT, Int.reduceNeg, Int.reduceBEq, Int.reduceBNe, Nat.reduceMul, Int.reduceAdd, Int.reduceMul, Int.reduceSub, Int.reduceEq, Int.reduceNe]
    repeat' (refine WF_pure (cLawSpan _ _) rfl ?_; simp (config := { maxSteps := 400000 }) only [go_sem, ↓reduceIte, reduceCtorEq, Nat.reduceEqDiff, Nat.reduceAdd, Nat.reduceLT, Nat.reduceLeDiff, Nat.reduceSub, Int.reduceToNat, Int.reduceLE, Int.reduceLT, Int.reduceNeg, Int.reduceBEq, Int.reduceBNe, Nat.reduceMul, Int.reduceAdd, Int.reduceMul, Int.reduceSub, Int.reduceEq, Int.reduceNe])
    exact ⟨rfl, rfl⟩
  · exact ⟨pless2_full _ _, pless2_full _ _, pless2_refl _, pless2_refl _, pless2_refl _, pless2_refl _, trivial⟩
theorem cCandle : PCall Try.prog 33 [] (sizedX 300).pv := by
  refine pcall_of_wp draws (fn := Try.f33) (n := 3) (rs := [.cell 0 34]) (by kernel_rfl) rfl rfl rfl ok33 (Nat.le_of_ble_eq_true rfl) ?_
  simp (config := { maxSteps := 400000 }) only [go_sem, ↓reduceIte, reduceCtorEq, Nat.reduceEqDiff, Nat.reduceAdd, Nat.reduceLT, Nat.reduceLeDiff, Nat.reduceSub, Int.reduceToNat, Int.reduceLE, Int.reduceLT, Int.reduceNeg, Int.reduceBEq, Int.reduceBNe, Nat.reduceMul, Int.reduceAdd, Int.reduceMul, Int.reduceSub, Int.reduceEq, Int.reduceNe]
  refine WF_pure (cLawSpan _ _) rfl ?_
  simp (config := { maxSteps := 400000 }) only [sizedX, go_sem, ↓reduceIte, reduceCtorEq, Nat.reduceEqDiff, Nat.reduceAdd, Nat.reduceLT, Nat.reduceLeDiff, Nat.reduceSub, Int.reduceToNat, Int.reduceLE, Int.reduceLT, Int.reduceNeg, Int.reduceBEq, Int.reduceBNe, Nat.reduceMul, Int.reduceAdd, Int.reduceMul, Int.reduceSub, Int.reduceEq, Int.reduceNe]
theorem cSized (d : Int) : PCall Try.prog 34 [.int .i64 d] (sizedX d).pv := by
  refine pcall_of_wp draws (fn := Try.f34) (n := 8) (rs := [.cell 2 34]) (by kernel_rfl) rfl rfl rfl ok34 (Nat.le_of_ble_eq_true rfl) ?_
  simp (config := { maxSteps := 400000 }) only [go_sem, ↓reduceIte, reduceCtorEq, Nat.reduceEqDiff, Nat.reduceAdd, Nat.reduceLT, Nat.reduceLeDiff, Nat.reduceSub, Int.reduceToNat, Int.reduceLE, Int.reduceLT, Int.reduceNeg, Int.reduceBEq, Int.reduceBNe, Nat.reduceMul, Int.reduceAdd, Int.reduceMul, Int.reduceSub, Int.reduceEq, Int.reduceNe]
  refine WF_pure cCandle rfl ?_
  simp (config := { maxSteps := 400000 }) only [sizedX, go_sem, ↓reduceIte, reduceCtorEq, Nat.reduceEqDiff, Nat.reduceAdd, Nat.reduceLT, Nat.reduceLeDiff, Nat.reduceSub, Int.reduceToNat, Int.reduceLE, Int.reduceLT, Int.reduceNeg, Int.reduceBEq, Int.reduceBNe, Nat.reduceMul, Int.reduceAdd, Int.reduceMul, Int.reduceSub, Int.reduceEq, Int.reduceNe]
/-- two lists are equal -/
theorem cInts (a b : List Int) (ba bb : Bool) (hl : a.length < 1000000000) (hb : b.length < 1000000000) : PCall Try.prog 25 [.slice 1 (a.map intPV) ba, .slice 1 (b.map intPV) bb] (.bool (decide (a = b))) := by
  refine pcall_of_wp draws (fn := Try.f25) (n := 26) (rs := [.tmp 4]) (by kernel_rfl) rfl rfl rfl ok25 (Nat.le_of_ble_eq_true rfl) ?_
  by_cases hlen : (a.length : Int) = (b.length : Int)
  rotate_left
  · have h1 : ((a.length : Int) != (b.length : Int)) = true := by simpa using hlen
    simp (config := { maxSteps := 400000 }) only [h1, go_sem, ↓reduceIte, reduceCtorEq, Nat.reduceEqDiff, Nat.reduceAdd, Nat.reduceLT, Nat.reduceLeDiff, Nat.reduceSub, Int.reduceToNat, Int.reduceLE, Int.reduceLT, Int.reduceNeg, Int.reduceBEq, Int.reduceBNe, Nat.reduceMul, Int.reduceAdd, Int.reduceMul, Int.reduceSub, Int.reduceEq, Int.reduceNe]
    simp
    rintro rfl
    exact hlen rfl
  have h1 : ((a.length : Int) != (b.length : Int)) = false := by simpa using hlen
  simp (config := { maxSteps := 400000 }) only [h1, go_sem, ↓reduceIte, reduceCtorEq, Nat.reduceEqDiff, Nat.reduceAdd, Nat.reduceLT, Nat.reduceLeDiff, Nat.reduceSub, Int.reduceToNat, Int.reduceLE, Int.reduceLT, Int.reduceNeg, Int.reduceBEq, Int.reduceBNe, Nat.reduceMul, Int.reduceAdd, Int.reduceMul, Int.reduceSub, Int.reduceEq, Int.reduceNe]
  refine W_loopH [0, 1] (σ := List Int × List Int × List Int × List Int) (fun s => a = s.1 ++ s.2.1 ∧ b = s.2.2.1 ++ s.2.2.2 ∧ s.1.length = s.2.2.1.length ∧ decide (a = b) = decide (s.2.1 = s.2.2.2)) (fun s => s.2.1.length) (fun s => [(5, .p (.int .i64 s.1.length))]) ([], a, [], b) ⟨rfl, rfl, rfl, rfl⟩ ?_ ?_
  · simp (config := { maxSteps := 400000 }) only [go_sem, ↓reduceIte, reduceCtorEq, Nat.reduceEqDiff, Nat.reduceAdd, Nat.reduceLT, Nat.reduceLeDiff, Nat.reduceSub, Int.reduceToNat, Int.reduceLE, Int.reduceLT, Int.reduceNeg, Int.reduceBEq, Int.reduceBNe, Nat.reduceMul, Int.reduceAdd, Int.reduceMul, Int.reduceSub, Int.reduceEq, Int.reduceNe]
  · rintro ⟨da, ra, db, rb⟩ ⟨e1, e2, e3, e4⟩
    dsimp only at e1 e2 e3 e4
    cases ra with
    | nil =>
      have hlt : ¬ ((da.length : Int) < (a.length : Int)) := by rw [e1]; simp
      cases rb with
      | nil => simp (config := { maxSteps := 400000 }) only [hlt, decide_false, go_sem, ↓reduceIte, reduceCtorEq, Nat.reduceEqDiff, Nat.reduceAdd, Nat.reduceLT, Nat.reduceLeDiff, Nat.reduceSub, Int.reduceToNat, Int.reduceLE, Int.reduceLT, Int.reduceNeg, Int.reduceBEq, Int.reduceBNe, Nat.reduceMul, Int.reduceAdd, Int.reduceMul, Int.reduceSub, Int.reduceEq, Int.reduceNe]; rw [e4]; rfl
      | cons y r => rw [e1, e2] at hlen; simp at hlen; omega
    | cons x r =>
      cases rb with
      | nil => rw [e1, e2] at hlen; simp at hlen; omega
      | cons y r' =>
        obtain ⟨hx, hlt⟩ := list_at e1
        obtain ⟨hy, _⟩ := list_at e2
        rw [← e3] at hy
        have hnx : IntKind.i64.wrap ((da.length : Int) + 1) = (((da ++ [x]).length : Nat) : Int) := wrap_add (by omega) (by simp [room]; omega) (by simp)
        have hlt2 : (da.length : Int) < (b.length : Int) := by omega
        simp (config := { maxSteps := 400000 }) only [hlt, hlt2, decide_true, hx, hy, intPV, go_sem, ↓reduceIte, reduceCtorEq, Nat.reduceEqDiff, Nat.reduceAdd, Nat.reduceLT, Nat.reduceLeDiff, Nat.reduceSub, Int.reduceToNat, Int.reduceLE, Int.reduceLT, Int.reduceNeg, Int.reduceBEq, Int.reduceBNe, Nat.reduceMul, Int.reduceAdd, Int.reduceMul, Int.reduceSub, Int.reduceEq, Int.reduceNe]
        refine WB_split (fun hb => ?_) (fun hb => ?_)
        · simp (config := { maxSteps := 400000 }) only [go_sem, ↓reduceIte, reduceCtorEq, Nat.reduceEqDiff, Nat.reduceAdd, Nat.reduceLT, Nat.reduceLeDiff, Nat.reduceSub, Int.reduceToNat, Int.reduceLE, Int.reduceLT, Int.reduceNeg, Int.reduceBEq, Int.reduceBNe, Nat.reduceMul, Int.reduceAdd, Int.reduceMul, Int.reduceSub, Int.reduceEq, Int.reduceNe]
          rw [e4]
          have : x ≠ y := by simpa using hb
          simp [this]
        · simp (config := { maxSteps := 400000 }) only [go_sem, ↓reduceIte, reduceCtorEq, Nat.reduceEqDiff, Nat.reduceAdd, Nat.reduceLT, Nat.reduceLeDiff, Nat.reduceSub, Int.reduceToNat, Int.reduceLE, Int.reduceLT, Int.reduceNeg, Int.reduceBEq, Int.reduceBNe, Nat.reduceMul, Int.reduceAdd, Int.reduceMul, Int.reduceSub, Int.reduceEq, Int.reduceNe]
          have : x = y := by simpa using hb
          refine WQ_headA (da ++ [x], r, db ++ [y], r') ⟨by simp [e1], by simp [e2], by simp [e3], by rw [e4, this]; simp⟩ (by simp) ?_
          simp (config := { maxSteps := 400000 }) only [hnx, go_sem, ↓reduceIte, reduceCtorEq, Nat.reduceEqDiff, Nat.reduceAdd, Nat.reduceLT, Nat.reduceLeDiff, Nat.reduceSub, Int.reduceToNat, Int.reduceLE, Int.reduceLT, Int.reduceNeg, Int.reduceBEq, Int.reduceBNe, Nat.reduceMul, Int.reduceAdd, Int.reduceMul, Int.reduceSub, Int.reduceEq, Int.reduceNe]
/-- a number of a range -/
def amongOf (lo hi n : Int) : Int := IntKind.i64.wrap (lo + n.tmod (IntKind.i64.wrap (IntKind.i64.wrap (hi - lo) + 1)))
theorem cAmong (lo hi n : Int) (h : IntKind.i64.wrap (IntKind.i64.wrap (hi - lo) + 1) ≠ 0) : PCall Try.prog 41 [.agg [.int .i64 lo, .int .i64 hi], .int .i64 n] (.int .i64 (amongOf lo hi n)) := by
  refine pcall_of_wp draws (fn := Try.f41) (n := 16) (rs := [.tmp 4]) (by kernel_rfl) rfl rfl rfl ok41 (Nat.le_of_ble_eq_true rfl) ?_
  simp (config := { maxSteps := 400000 }) only [h, amongOf, go_sem, ↓reduceIte, reduceCtorEq, Nat.reduceEqDiff, Nat.reduceAdd, Nat.reduceLT, Nat.reduceLeDiff, Nat.reduceSub, Int.reduceToNat, Int.reduceLE, Int.reduceLT, Int.reduceNeg, Int.reduceBEq, Int.reduceBNe, Nat.reduceMul, Int.reduceAdd, Int.reduceMul, Int.reduceSub, Int.reduceEq, Int.reduceNe]
theorem ints_len {l : List Int} (h : l.length ≤ 12) : l.length < 1000000000 := by omega
/-! the examples -/
def waxX : Wax := ⟨⟨#[98, 101, 101, 115]⟩, ⟨100, 100⟩, ⟨150, 160⟩, ⟨1000, 1100⟩, 1⟩
def thinX : Wick := ⟨⟨#[116, 104, 105, 110]⟩, 10, ⟨16, 18⟩⟩
def midX : Wick := ⟨⟨#[109, 105, 100]⟩, 14, ⟨20, 24⟩⟩
def fatX : Wick := ⟨⟨#[102, 97, 116]⟩, 20, ⟨30, 36⟩⟩
theorem hX {k d : Int} {w : Wick} (hw : shopX.wicks[k.toNat]? = some w) (h : askErr shopX [k] (sizedX d) = 0) : Site shopX (sizedX d) waxX ∧ SiteK shopX k w := by
  obtain ⟨w', x', h1, h2⟩ := site_of h
  have e1 : w' = w := Option.some.inj (h2.hw.symm.trans hw)
  have e2 : x' = waxX := Option.some.inj (h1.hx.symm.trans rfl)
  subst e1 e2
  exact ⟨h1, h2⟩
theorem hX0 {d : Int} (h : askErr shopX [] (sizedX d) = 0) : Site shopX (sizedX d) waxX := by
  obtain ⟨x', h1⟩ := siteC_of h
  have e2 : x' = waxX := Option.some.inj (h1.hx.symm.trans rfl)
  subst e2
  exact h1
theorem kAt : PCall Try.prog 17 [shopX.pv, .int .i64 1, (sizedX 300).pv, (⟨22, 100, 150, 1000, 0, 10⟩ : Truth).pv] (.tuple [(⟨22000000, 33000000, 219000000⟩ : Burn).pv, .int .i64 0]) := by
  have h := cWickAt shopX 1 (sizedX 300) ⟨22, 100, 150, 1000, 0, 10⟩ midX waxX (hX rfl)
  rwa [show atSpec shopX 1 (sizedX 300) ⟨22, 100, 150, 1000, 0, 10⟩ midX waxX = (⟨22000000, 33000000, 219000000⟩, 0) by kernel_rfl] at h
theorem kBurn : PCall Try.prog 19 [shopX.pv, .int .i64 1, (sizedX 300).pv] (.tuple [(⟨18000000, 27000000, 178000000⟩ : Burn).pv, (⟨26400000, 42240000, 290400000⟩ : Burn).pv, .int .i64 0]) := by
  have h := cWickBurn shopX 1 (sizedX 300) midX waxX (hX rfl)
  rwa [show burnSpec shopX 1 (sizedX 300) midX waxX = (⟨18000000, 27000000, 178000000⟩, ⟨26400000, 42240000, 290400000⟩, 0) by kernel_rfl] at h
theorem kFaults0 : PCall Try.prog 23 [shopX.pv, .int .i64 0, (sizedX 300).pv] (.tuple [intsPV [3], .int .i64 0]) := by
  have h := cWickFaults shopX 0 (sizedX 300) thinX waxX (hX rfl)
  rwa [show faultsSpec shopX 0 (sizedX 300) thinX waxX = ([3], 0) by kernel_rfl] at h
theorem kFaults1 : PCall Try.prog 23 [shopX.pv, .int .i64 1, (sizedX 300).pv] (.tuple [intsPV [], .int .i64 0]) := by
  have h := cWickFaults shopX 1 (sizedX 300) midX waxX (hX rfl)
  rwa [show faultsSpec shopX 1 (sizedX 300) midX waxX = ([], 0) by kernel_rfl] at h
theorem kFaults2 : PCall Try.prog 23 [shopX.pv, .int .i64 2, (sizedX 300).pv] (.tuple [intsPV (1 :: [4]), .int .i64 0]) := by
  have h := cWickFaults shopX 2 (sizedX 300) fatX waxX (hX rfl)
  rwa [show faultsSpec shopX 2 (sizedX 300) fatX waxX = ((1 :: [4]), 0) by kernel_rfl] at h
theorem kSuits300 : PCall Try.prog 26 [shopX.pv, (sizedX 300).pv] (.tuple [intsPV [1], .int .i64 0]) := by
  have h := cWickSuits shopX (sizedX 300) waxX hX0
  rwa [show suitsSpec shopX (sizedX 300) waxX = ([1], 0) by kernel_rfl] at h
theorem kSuits250 : PCall Try.prog 26 [shopX.pv, (sizedX 250).pv] (.tuple [intsPV [0], .int .i64 0]) := by
  have h := cWickSuits shopX (sizedX 250) waxX hX0
  rwa [show suitsSpec shopX (sizedX 250) waxX = ([0], 0) by kernel_rfl] at h
theorem kThin300 : PCall Try.prog 28 [shopX.pv, (sizedX 300).pv] (.tuple [.int .i64 1, .int .i64 0]) := by
  have h := cWickThinnest shopX (sizedX 300) waxX hX0
  rwa [show thinSpec shopX (sizedX 300) waxX = (1, 0) by kernel_rfl] at h
theorem kThin285 : PCall Try.prog 28 [shopX.pv, (sizedX 285).pv] (.tuple [.int .i64 0, .int .i64 9]) := by
  have h := cWickThinnest shopX (sizedX 285) waxX hX0
  rwa [show thinSpec shopX (sizedX 285) waxX = (0, 9) by kernel_rfl] at h
theorem kSizes0 : PCall Try.prog 30 [shopX.pv, .int .i64 0, (sizedX 300).pv] (.tuple [(⟨218, 284⟩ : Span).pv, .int .i64 0]) := by
  have h := cWickSizes shopX 0 (sizedX 300) thinX waxX (hX rfl)
  rwa [show sizesSpec shopX 0 (sizedX 300) thinX waxX = (⟨218, 284⟩, 0) by kernel_rfl] at h
theorem kSizes1 : PCall Try.prog 30 [shopX.pv, .int .i64 1, (sizedX 300).pv] (.tuple [(⟨291, 356⟩ : Span).pv, .int .i64 0]) := by
  have h := cWickSizes shopX 1 (sizedX 300) midX waxX (hX rfl)
  rwa [show sizesSpec shopX 1 (sizedX 300) midX waxX = (⟨291, 356⟩, 0) by kernel_rfl] at h
theorem kSizes2 : PCall Try.prog 30 [shopX.pv, .int .i64 2, (sizedX 300).pv] (.tuple [(⟨0, 0⟩ : Span).pv, .int .i64 9]) := by
  have h := cWickSizes shopX 2 (sizedX 300) fatX waxX (hX rfl)
  rwa [show sizesSpec shopX 2 (sizedX 300) fatX waxX = (⟨0, 0⟩, 9) by kernel_rfl] at h
theorem kMinutes : PCall Try.prog 21 [shopX.pv, .int .i64 1, (sizedX 300).pv, .int .i64 100] (.tuple [(⟨2272, 3334⟩ : Span).pv, .int .i64 0]) := by
  have h := cWickMinutes shopX 1 (sizedX 300) 100 midX waxX (hX rfl)
  rwa [show minSpec shopX 1 (sizedX 300) 100 midX waxX = (⟨2272, 3334⟩, 0) by kernel_rfl] at h
theorem cIntsT (a : List Int) (ba bb : Bool) (hl : a.length < 1000000000) : PCall Try.prog 25 [.slice 1 (a.map intPV) ba, .slice 1 (a.map intPV) bb] (.bool true) := by
  have := cInts a a ba bb hl hl
  rwa [decide_eq_true rfl] at this
theorem cAwake : PCall Try.prog 16 [] (.bool true) := by
  refine pcall_of_wp draws (fn := Try.f16) (n := 137) (rs := [.tmp 0]) (by kernel_rfl) rfl rfl rfl ok16 (Nat.le_of_ble_eq_true rfl) ?_
  simp (config := { maxSteps := 400000 }) only [go_sem, ↓reduceIte, reduceCtorEq, Nat.reduceEqDiff, Nat.reduceAdd, Nat.reduceLT, Nat.reduceLeDiff, Nat.reduceSub, Int.reduceToNat, Int.reduceLE, Int.reduceLT, Int.reduceNeg, Int.reduceBEq, Int.reduceBNe, Nat.reduceMul, Int.reduceAdd, Int.reduceMul, Int.reduceSub, Int.reduceEq, Int.reduceNe]
  repeat' first
    | (refine WF_pure cShop rfl ?_; simp (config := { maxSteps := 400000 }) only [go_sem, ↓reduceIte, reduceCtorEq, Nat.reduceEqDiff, Nat.reduceAdd, Nat.reduceLT, Nat.reduceLeDiff, Nat.reduceSub, Int.reduceToNat, Int.reduceLE, Int.reduceLT, Int.reduceNeg, Int.reduceBEq, Int.reduceBNe, Nat.reduceMul, Int.reduceAdd, Int.reduceMul, Int.reduceSub, Int.reduceEq, Int.reduceNe])
    | (refine WF_pure cCandle rfl ?_; simp (config := { maxSteps := 400000 }) only [go_sem, ↓reduceIte, reduceCtorEq, Nat.reduceEqDiff, Nat.reduceAdd, Nat.reduceLT, Nat.reduceLeDiff, Nat.reduceSub, Int.reduceToNat, Int.reduceLE, Int.reduceLT, Int.reduceNeg, Int.reduceBEq, Int.reduceBNe, Nat.reduceMul, Int.reduceAdd, Int.reduceMul, Int.reduceSub, Int.reduceEq, Int.reduceNe])
    | (refine WF_pure (cSized _) rfl ?_; simp (config := { maxSteps := 400000 }) only [go_sem, ↓reduceIte, reduceCtorEq, Nat.reduceEqDiff, Nat.reduceAdd, Nat.reduceLT, Nat.reduceLeDiff, Nat.reduceSub, Int.reduceToNat, Int.reduceLE, Int.reduceLT, Int.reduceNeg, Int.reduceBEq, Int.reduceBNe, Nat.reduceMul, Int.reduceAdd, Int.reduceMul, Int.reduceSub, Int.reduceEq, Int.reduceNe])
    | (refine WF_pure kAt rfl ?_; simp (config := { maxSteps := 400000 }) only [go_sem, ↓reduceIte, reduceCtorEq, Nat.reduceEqDiff, Nat.reduceAdd, Nat.reduceLT, Nat.reduceLeDiff, Nat.reduceSub, Int.reduceToNat, Int.reduceLE, Int.reduceLT, Int.reduceNeg, Int.reduceBEq, Int.reduceBNe, Nat.reduceMul, Int.reduceAdd, Int.reduceMul, Int.reduceSub, Int.reduceEq, Int.reduceNe])
    | (refine WF_pure kBurn rfl ?_; simp (config := { maxSteps := 400000 }) only [go_sem, ↓reduceIte, reduceCtorEq, Nat.reduceEqDiff, Nat.reduceAdd, Nat.reduceLT, Nat.reduceLeDiff, Nat.reduceSub, Int.reduceToNat, Int.reduceLE, Int.reduceLT, Int.reduceNeg, Int.reduceBEq, Int.reduceBNe, Nat.reduceMul, Int.reduceAdd, Int.reduceMul, Int.reduceSub, Int.reduceEq, Int.reduceNe])
    | (refine WF_pure kFaults2 rfl ?_; simp (config := { maxSteps := 400000 }) only [go_sem, ↓reduceIte, reduceCtorEq, Nat.reduceEqDiff, Nat.reduceAdd, Nat.reduceLT, Nat.reduceLeDiff, Nat.reduceSub, Int.reduceToNat, Int.reduceLE, Int.reduceLT, Int.reduceNeg, Int.reduceBEq, Int.reduceBNe, Nat.reduceMul, Int.reduceAdd, Int.reduceMul, Int.reduceSub, Int.reduceEq, Int.reduceNe])
    | (refine WF_pure kSuits300 rfl ?_; simp (config := { maxSteps := 400000 }) only [go_sem, ↓reduceIte, reduceCtorEq, Nat.reduceEqDiff, Nat.reduceAdd, Nat.reduceLT, Nat.reduceLeDiff, Nat.reduceSub, Int.reduceToNat, Int.reduceLE, Int.reduceLT, Int.reduceNeg, Int.reduceBEq, Int.reduceBNe, Nat.reduceMul, Int.reduceAdd, Int.reduceMul, Int.reduceSub, Int.reduceEq, Int.reduceNe])
    | (refine WF_pure kThin300 rfl ?_; simp (config := { maxSteps := 400000 }) only [go_sem, ↓reduceIte, reduceCtorEq, Nat.reduceEqDiff, Nat.reduceAdd, Nat.reduceLT, Nat.reduceLeDiff, Nat.reduceSub, Int.reduceToNat, Int.reduceLE, Int.reduceLT, Int.reduceNeg, Int.reduceBEq, Int.reduceBNe, Nat.reduceMul, Int.reduceAdd, Int.reduceMul, Int.reduceSub, Int.reduceEq, Int.reduceNe])
    | (refine WF_pure kThin285 rfl ?_; simp (config := { maxSteps := 400000 }) only [go_sem, ↓reduceIte, reduceCtorEq, Nat.reduceEqDiff, Nat.reduceAdd, Nat.reduceLT, Nat.reduceLeDiff, Nat.reduceSub, Int.reduceToNat, Int.reduceLE, Int.reduceLT, Int.reduceNeg, Int.reduceBEq, Int.reduceBNe, Nat.reduceMul, Int.reduceAdd, Int.reduceMul, Int.reduceSub, Int.reduceEq, Int.reduceNe])
    | (refine WF_pure kSizes1 rfl ?_; simp (config := { maxSteps := 400000 }) only [go_sem, ↓reduceIte, reduceCtorEq, Nat.reduceEqDiff, Nat.reduceAdd, Nat.reduceLT, Nat.reduceLeDiff, Nat.reduceSub, Int.reduceToNat, Int.reduceLE, Int.reduceLT, Int.reduceNeg, Int.reduceBEq, Int.reduceBNe, Nat.reduceMul, Int.reduceAdd, Int.reduceMul, Int.reduceSub, Int.reduceEq, Int.reduceNe])
    | (refine WF_pure kMinutes rfl ?_; simp (config := { maxSteps := 400000 }) only [List.append_eq, go_sem, ↓reduceIte, reduceCtorEq, Nat.reduceEqDiff, Nat.reduceAdd, Nat.reduceLT, Nat.reduceLeDiff, Nat.reduceSub, Int.reduceToNat, Int.reduceLE, Int.reduceLT, Int.reduceNeg, Int.reduceBEq, Int.reduceBNe, Nat.reduceMul, Int.reduceAdd, Int.reduceMul, Int.reduceSub, Int.reduceEq, Int.reduceNe])
  refine WDQ_pure (cIntsT [1, 4] false true (by decide)) rfl ?_
  simp (config := { maxSteps := 400000 }) only [List.append_eq, go_sem, ↓reduceIte, reduceCtorEq, Nat.reduceEqDiff, Nat.reduceAdd, Nat.reduceLT, Nat.reduceLeDiff, Nat.reduceSub, Int.reduceToNat, Int.reduceLE, Int.reduceLT, Int.reduceNeg, Int.reduceBEq, Int.reduceBNe, Nat.reduceMul, Int.reduceAdd, Int.reduceMul, Int.reduceSub, Int.reduceEq, Int.reduceNe]
  refine WDQ_pure (cIntsT [1] false true (by decide)) rfl ?_
  simp (config := { maxSteps := 400000 }) only [List.append_eq, go_sem, ↓reduceIte, reduceCtorEq, Nat.reduceEqDiff, Nat.reduceAdd, Nat.reduceLT, Nat.reduceLeDiff, Nat.reduceSub, Int.reduceToNat, Int.reduceLE, Int.reduceLT, Int.reduceNeg, Int.reduceBEq, Int.reduceBNe, Nat.reduceMul, Int.reduceAdd, Int.reduceMul, Int.reduceSub, Int.reduceEq, Int.reduceNe]
  refine WDQ_pure (cLawSpan _ _) rfl ?_
  simp (config := { maxSteps := 400000 }) only [List.append_eq, go_sem, ↓reduceIte, reduceCtorEq, Nat.reduceEqDiff, Nat.reduceAdd, Nat.reduceLT, Nat.reduceLeDiff, Nat.reduceSub, Int.reduceToNat, Int.reduceLE, Int.reduceLT, Int.reduceNeg, Int.reduceBEq, Int.reduceBNe, Nat.reduceMul, Int.reduceAdd, Int.reduceMul, Int.reduceSub, Int.reduceEq, Int.reduceNe]
  refine WDQ_pure (cLawSpan _ _) rfl ?_
  simp (config := { maxSteps := 400000 }) only [List.append_eq, go_sem, ↓reduceIte, reduceCtorEq, Nat.reduceEqDiff, Nat.reduceAdd, Nat.reduceLT, Nat.reduceLeDiff, Nat.reduceSub, Int.reduceToNat, Int.reduceLE, Int.reduceLT, Int.reduceNeg, Int.reduceBEq, Int.reduceBNe, Nat.reduceMul, Int.reduceAdd, Int.reduceMul, Int.reduceSub, Int.reduceEq, Int.reduceNe]
end Abs
end Go.Proofs.Ytdgmmijimclooaa
