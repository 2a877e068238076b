/-
  CONTRACTS: the examples; the laws BlendChecks, BlendValues, BlendWishes, BlendKnown.
-/
import Derived.Test.YthekmbikolpmlaaBdLaw0
namespace Go.Proofs.Ythekmbikolpmlaa
namespace Abs
set_option linter.unusedSimpArgs false
set_option linter.unusedVariables false
set_option maxRecDepth 100000

theorem vRaise0 : bdRaise waxesX 2 3 = (25, 0) := by kernel_rfl
theorem kRaise0 : PCall Try.prog 17 [bdWaxes waxesX, .int .i64 2, .int .i64 3] (pairPV (25, 0)) := by
  have h := cRaise waxesX 2 3
  rwa [vRaise0] at h
theorem vRaise1 : bdRaise waxesX 3 0 = (0, 4) := by kernel_rfl
theorem kRaise1 : PCall Try.prog 17 [bdWaxes waxesX, .int .i64 3, .int .i64 0] (pairPV (0, 4)) := by
  have h := cRaise waxesX 3 0
  rwa [vRaise1] at h
theorem vRaise2 : bdRaise waxesX 2 1 = (10, 0) := by kernel_rfl
theorem kRaise2 : PCall Try.prog 17 [bdWaxes waxesX, .int .i64 2, .int .i64 1] (pairPV (10, 0)) := by
  have h := cRaise waxesX 2 1
  rwa [vRaise2] at h
theorem vRaise3 : bdRaise waxesX 2 2 = (20, 0) := by kernel_rfl
theorem kRaise3 : PCall Try.prog 17 [bdWaxes waxesX, .int .i64 2, .int .i64 2] (pairPV (20, 0)) := by
  have h := cRaise waxesX 2 2
  rwa [vRaise3] at h
theorem vRaise4 : bdRaise waxesX 2 5 = (30, 0) := by kernel_rfl
theorem kRaise4 : PCall Try.prog 17 [bdWaxes waxesX, .int .i64 2, .int .i64 5] (pairPV (30, 0)) := by
  have h := cRaise waxesX 2 5
  rwa [vRaise4] at h
theorem vValue : bdValue waxesX [4, 15, 1] = (⟨11470, 12160⟩, ⟨2070, 2720⟩, 8200, 0) := by kernel_rfl
theorem kValue (b : Bool) : PCall Try.prog 20 [bdWaxes waxesX, .slice 1 (([4, 15, 1] : List Int).map intPV) b] (valuePV (⟨11470, 12160⟩, ⟨2070, 2720⟩, 8200, 0)) := by
  have h := cValue waxesX [4, 15, 1] b
  rwa [vValue] at h
theorem vMade : bdMade waxesX [4, 15, 1] lotsX = (11820, 2370, 0) := by kernel_rfl
theorem kMade (b b2 : Bool) : PCall Try.prog 22 [bdWaxes waxesX, .slice 1 (([4, 15, 1] : List Int).map intPV) b, .slice 2 (lotsX.map BdLot.pv) b2] (triple (11820, 2370, 0)) := by
  have h := cMade waxesX [4, 15, 1] lotsX b b2
  rwa [vMade] at h
theorem vFits0 : bdFits waxesX wishX ([4, 16, 0] : List Int) = (2, 0) := by kernel_rfl
theorem kFits0 (b : Bool) : PCall Try.prog 27 [bdWaxes waxesX, wishX.pv, .slice 1 (([4, 16, 0] : List Int).map intPV) b] (pairPV (2, 0)) := by
  have h := cFits waxesX wishX ([4, 16, 0] : List Int) b
  rwa [vFits0] at h
theorem vFits1 : bdFits waxesX wishX ([4, 15, 1] : List Int) = (0, 0) := by kernel_rfl
theorem kFits1 (b : Bool) : PCall Try.prog 27 [bdWaxes waxesX, wishX.pv, .slice 1 (([4, 15, 1] : List Int).map intPV) b] (pairPV (0, 0)) := by
  have h := cFits waxesX wishX ([4, 15, 1] : List Int) b
  rwa [vFits1] at h
theorem vFits2 : bdFits waxesX wishX ([4, 14, 2] : List Int) = (1, 0) := by kernel_rfl
theorem kFits2 (b : Bool) : PCall Try.prog 27 [bdWaxes waxesX, wishX.pv, .slice 1 (([4, 14, 2] : List Int).map intPV) b] (pairPV (1, 0)) := by
  have h := cFits waxesX wishX ([4, 14, 2] : List Int) b
  rwa [vFits2] at h
theorem vCheapest : bdCheapest waxesX wishX = ([4, 15, 1], 8200, 0) := by kernel_rfl
theorem kCheapest : PCall Try.prog 29 [bdWaxes waxesX, wishX.pv] (bestPV ([4, 15, 1], 8200, 0)) := by
  have h := cCheapest waxesX wishX
  rwa [vCheapest] at h
theorem vStays0 : bdStays waxesX wishX [4, 15, 1] 0 = (⟨400, 100000⟩, 0) := by kernel_rfl
theorem kStays0 (b : Bool) : PCall Try.prog 31 [bdWaxes waxesX, wishX.pv, .slice 1 (([4, 15, 1] : List Int).map intPV) b, .int .i64 0] (staysPV (⟨400, 100000⟩, 0)) := by
  have h := cStays waxesX wishX [4, 15, 1] b 0
  rwa [vStays0] at h
theorem vStays1 : bdStays waxesX wishX [4, 15, 1] 1 = (⟨0, 1200⟩, 0) := by kernel_rfl
theorem kStays1 (b : Bool) : PCall Try.prog 31 [bdWaxes waxesX, wishX.pv, .slice 1 (([4, 15, 1] : List Int).map intPV) b, .int .i64 1] (staysPV (⟨0, 1200⟩, 0)) := by
  have h := cStays waxesX wishX [4, 15, 1] b 1
  rwa [vStays1] at h
theorem vStays2 : bdStays waxesX wishX [4, 15, 1] 2 = (⟨0, 1200⟩, 0) := by kernel_rfl
theorem kStays2 (b : Bool) : PCall Try.prog 31 [bdWaxes waxesX, wishX.pv, .slice 1 (([4, 15, 1] : List Int).map intPV) b, .int .i64 2] (staysPV (⟨0, 1200⟩, 0)) := by
  have h := cStays waxesX wishX [4, 15, 1] b 2
  rwa [vStays2] at h
theorem vWeigh0 : bdWeigh waxesX [4, 15, 1] 1001 = ([200, 750, 51], 0) := by kernel_rfl
theorem kWeigh0 (b : Bool) : PCall Try.prog 24 [bdWaxes waxesX, .slice 1 (([4, 15, 1] : List Int).map intPV) b, .int .i64 1001] (weighPV ([200, 750, 51], 0)) := by
  have h := cWeigh waxesX [4, 15, 1] 1001 b
  rwa [vWeigh0] at h
theorem vWeigh1 : bdWeigh waxesX [4, 15, 1] 1000 = ([200, 750, 50], 0) := by kernel_rfl
theorem kWeigh1 (b : Bool) : PCall Try.prog 24 [bdWaxes waxesX, .slice 1 (([4, 15, 1] : List Int).map intPV) b, .int .i64 1000] (weighPV ([200, 750, 50], 0)) := by
  have h := cWeigh waxesX [4, 15, 1] 1000 b
  rwa [vWeigh1] at h
theorem cIntsT (a : List Int) (b1 b2 : Bool) (ha : a.length < 1000000000) : PCall Try.prog 26 [.slice 1 (a.map intPV) b1, .slice 1 (a.map intPV) b2] (.bool true) := by
  have := cInts a a b1 b2 ha ha
  rwa [beq_self_eq_true] at this
set_option maxHeartbeats 2000000 in
theorem cAwake : PCall Try.prog 19 [] (.bool true) := by
  refine pcall_of_wp draws (fn := Try.f19) (n := 156) (rs := [.tmp 0]) (by kernel_rfl) rfl rfl rfl ok19 (Nat.le_of_ble_eq_true rfl) ?_
  simp (config := { maxSteps := 400000 }) only [go_sem, ↓reduceIte, reduceCtorEq, Nat.reduceEqDiff, Nat.reduceAdd, Nat.reduceLT, Nat.reduceLeDiff, Nat.reduceSub, Int.reduceToNat, Int.reduceLE, Int.reduceLT, Int.reduceNeg, Int.reduceBEq, Int.reduceBNe, Nat.reduceMul, Int.reduceAdd, Int.reduceMul, Int.reduceSub, Int.reduceEq, Int.reduceNe]
  repeat' first
    | (refine WF_pure cWaxes rfl ?_; simp (config := { maxSteps := 400000 }) only [go_sem, ↓reduceIte, reduceCtorEq, Nat.reduceEqDiff, Nat.reduceAdd, Nat.reduceLT, Nat.reduceLeDiff, Nat.reduceSub, Int.reduceToNat, Int.reduceLE, Int.reduceLT, Int.reduceNeg, Int.reduceBEq, Int.reduceBNe, Nat.reduceMul, Int.reduceAdd, Int.reduceMul, Int.reduceSub, Int.reduceEq, Int.reduceNe])
    | (refine WF_pure cWish rfl ?_; simp (config := { maxSteps := 400000 }) only [go_sem, ↓reduceIte, reduceCtorEq, Nat.reduceEqDiff, Nat.reduceAdd, Nat.reduceLT, Nat.reduceLeDiff, Nat.reduceSub, Int.reduceToNat, Int.reduceLE, Int.reduceLT, Int.reduceNeg, Int.reduceBEq, Int.reduceBNe, Nat.reduceMul, Int.reduceAdd, Int.reduceMul, Int.reduceSub, Int.reduceEq, Int.reduceNe])
    | (refine WF_pure kRaise0 rfl ?_; simp (config := { maxSteps := 400000 }) only [pairPV, go_sem, ↓reduceIte, reduceCtorEq, Nat.reduceEqDiff, Nat.reduceAdd, Nat.reduceLT, Nat.reduceLeDiff, Nat.reduceSub, Int.reduceToNat, Int.reduceLE, Int.reduceLT, Int.reduceNeg, Int.reduceBEq, Int.reduceBNe, Nat.reduceMul, Int.reduceAdd, Int.reduceMul, Int.reduceSub, Int.reduceEq, Int.reduceNe])
    | (refine WF_pure kRaise1 rfl ?_; simp (config := { maxSteps := 400000 }) only [pairPV, List.append_eq, go_sem, ↓reduceIte, reduceCtorEq, Nat.reduceEqDiff, Nat.reduceAdd, Nat.reduceLT, Nat.reduceLeDiff, Nat.reduceSub, Int.reduceToNat, Int.reduceLE, Int.reduceLT, Int.reduceNeg, Int.reduceBEq, Int.reduceBNe, Nat.reduceMul, Int.reduceAdd, Int.reduceMul, Int.reduceSub, Int.reduceEq, Int.reduceNe])
    | (refine WF_pure (kValue true) rfl ?_; simp (config := { maxSteps := 400000 }) only [valuePV, go_sem, ↓reduceIte, reduceCtorEq, Nat.reduceEqDiff, Nat.reduceAdd, Nat.reduceLT, Nat.reduceLeDiff, Nat.reduceSub, Int.reduceToNat, Int.reduceLE, Int.reduceLT, Int.reduceNeg, Int.reduceBEq, Int.reduceBNe, Nat.reduceMul, Int.reduceAdd, Int.reduceMul, Int.reduceSub, Int.reduceEq, Int.reduceNe])
    | (refine WF_pure (kMade true true) rfl ?_; simp (config := { maxSteps := 400000 }) only [triple, go_sem, ↓reduceIte, reduceCtorEq, Nat.reduceEqDiff, Nat.reduceAdd, Nat.reduceLT, Nat.reduceLeDiff, Nat.reduceSub, Int.reduceToNat, Int.reduceLE, Int.reduceLT, Int.reduceNeg, Int.reduceBEq, Int.reduceBNe, Nat.reduceMul, Int.reduceAdd, Int.reduceMul, Int.reduceSub, Int.reduceEq, Int.reduceNe])
    | (refine WF_pure (kFits0 true) rfl ?_; simp (config := { maxSteps := 400000 }) only [pairPV, go_sem, ↓reduceIte, reduceCtorEq, Nat.reduceEqDiff, Nat.reduceAdd, Nat.reduceLT, Nat.reduceLeDiff, Nat.reduceSub, Int.reduceToNat, Int.reduceLE, Int.reduceLT, Int.reduceNeg, Int.reduceBEq, Int.reduceBNe, Nat.reduceMul, Int.reduceAdd, Int.reduceMul, Int.reduceSub, Int.reduceEq, Int.reduceNe])
    | (refine WF_pure kCheapest rfl ?_; simp (config := { maxSteps := 400000 }) only [bestPV, go_sem, ↓reduceIte, reduceCtorEq, Nat.reduceEqDiff, Nat.reduceAdd, Nat.reduceLT, Nat.reduceLeDiff, Nat.reduceSub, Int.reduceToNat, Int.reduceLE, Int.reduceLT, Int.reduceNeg, Int.reduceBEq, Int.reduceBNe, Nat.reduceMul, Int.reduceAdd, Int.reduceMul, Int.reduceSub, Int.reduceEq, Int.reduceNe])
    | (refine WF_pure (kStays0 true) rfl ?_; simp (config := { maxSteps := 400000 }) only [staysPV, go_sem, ↓reduceIte, reduceCtorEq, Nat.reduceEqDiff, Nat.reduceAdd, Nat.reduceLT, Nat.reduceLeDiff, Nat.reduceSub, Int.reduceToNat, Int.reduceLE, Int.reduceLT, Int.reduceNeg, Int.reduceBEq, Int.reduceBNe, Nat.reduceMul, Int.reduceAdd, Int.reduceMul, Int.reduceSub, Int.reduceEq, Int.reduceNe])
    | (refine WF_pure (kWeigh0 true) rfl ?_; simp (config := { maxSteps := 400000 }) only [weighPV, go_sem, ↓reduceIte, reduceCtorEq, Nat.reduceEqDiff, Nat.reduceAdd, Nat.reduceLT, Nat.reduceLeDiff, Nat.reduceSub, Int.reduceToNat, Int.reduceLE, Int.reduceLT, Int.reduceNeg, Int.reduceBEq, Int.reduceBNe, Nat.reduceMul, Int.reduceAdd, Int.reduceMul, Int.reduceSub, Int.reduceEq, Int.reduceNe])
    | (refine WDQ_pure (cLawSpan _ _) rfl ?_; simp (config := { maxSteps := 400000 }) only [List.append_eq, go_sem, ↓reduceIte, reduceCtorEq, Nat.reduceEqDiff, Nat.reduceAdd, Nat.reduceLT, Nat.reduceLeDiff, Nat.reduceSub, Int.reduceToNat, Int.reduceLE, Int.reduceLT, Int.reduceNeg, Int.reduceBEq, Int.reduceBNe, Nat.reduceMul, Int.reduceAdd, Int.reduceMul, Int.reduceSub, Int.reduceEq, Int.reduceNe])
    | (refine WDQ_pure (cIntsT [4, 15, 1] false true (by decide)) rfl ?_; simp (config := { maxSteps := 400000 }) only [List.append_eq, go_sem, ↓reduceIte, reduceCtorEq, Nat.reduceEqDiff, Nat.reduceAdd, Nat.reduceLT, Nat.reduceLeDiff, Nat.reduceSub, Int.reduceToNat, Int.reduceLE, Int.reduceLT, Int.reduceNeg, Int.reduceBEq, Int.reduceBNe, Nat.reduceMul, Int.reduceAdd, Int.reduceMul, Int.reduceSub, Int.reduceEq, Int.reduceNe])
    | (refine WDQ_pure (cIntsT [200, 750, 51] false true (by decide)) rfl ?_; simp (config := { maxSteps := 400000 }) only [List.append_eq, go_sem, ↓reduceIte, reduceCtorEq, Nat.reduceEqDiff, Nat.reduceAdd, Nat.reduceLT, Nat.reduceLeDiff, Nat.reduceSub, Int.reduceToNat, Int.reduceLE, Int.reduceLT, Int.reduceNeg, Int.reduceBEq, Int.reduceBNe, Nat.reduceMul, Int.reduceAdd, Int.reduceMul, Int.reduceSub, Int.reduceEq, Int.reduceNe])
theorem lBlendChecks (l : List BdWax) (a b : Int) : PCall Try.prog 3 [bdWaxes l, .agg [.int .i64 a, .int .i64 b]] (.bool true) := by
  refine pcall_of_wp draws (fn := Try.f3) (n := 67) (rs := [.tmp 4]) (by kernel_rfl) rfl rfl rfl ok3 (Nat.le_of_ble_eq_true rfl) ?_
  simp (config := { maxSteps := 400000 }) only [go_sem, ↓reduceIte, reduceCtorEq, Nat.reduceEqDiff, Nat.reduceAdd, Nat.reduceLT, Nat.reduceLeDiff, Nat.reduceSub, Int.reduceToNat, Int.reduceLE, Int.reduceLT, Int.reduceNeg, Int.reduceBEq, Int.reduceBNe, Nat.reduceMul, Int.reduceAdd, Int.reduceMul, Int.reduceSub, Int.reduceEq, Int.reduceNe]
  (first | refine WF_pure (cBdCheck l) rfl ?_ | refine WDQ_pure (cBdCheck l) rfl ?_)
  simp (config := { maxSteps := 400000 }) only [triple, go_sem, ↓reduceIte, reduceCtorEq, Nat.reduceEqDiff, Nat.reduceAdd, Nat.reduceLT, Nat.reduceLeDiff, Nat.reduceSub, Int.reduceToNat, Int.reduceLE, Int.reduceLT, Int.reduceNeg, Int.reduceBEq, Int.reduceBNe, Nat.reduceMul, Int.reduceAdd, Int.reduceMul, Int.reduceSub, Int.reduceEq, Int.reduceNe]
  (first | refine WF_pure (cRefBdCheck l) rfl ?_ | refine WDQ_pure (cRefBdCheck l) rfl ?_)
  simp (config := { maxSteps := 400000 }) only [triple, go_sem, ↓reduceIte, reduceCtorEq, Nat.reduceEqDiff, Nat.reduceAdd, Nat.reduceLT, Nat.reduceLeDiff, Nat.reduceSub, Int.reduceToNat, Int.reduceLE, Int.reduceLT, Int.reduceNeg, Int.reduceBEq, Int.reduceBNe, Nat.reduceMul, Int.reduceAdd, Int.reduceMul, Int.reduceSub, Int.reduceEq, Int.reduceNe]
  have e1 : ((bdCheck l).1 != (bdCheck l).1) = false := by simp
  have e2 : ((bdCheck l).2.1 != (bdCheck l).2.1) = false := by simp
  have e3 : ((bdCheck l).2.2 != (bdCheck l).2.2) = false := by simp
  simp (config := { maxSteps := 400000 }) only [e1, e2, e3, go_sem, ↓reduceIte, reduceCtorEq, Nat.reduceEqDiff, Nat.reduceAdd, Nat.reduceLT, Nat.reduceLeDiff, Nat.reduceSub, Int.reduceToNat, Int.reduceLE, Int.reduceLT, Int.reduceNeg, Int.reduceBEq, Int.reduceBNe, Nat.reduceMul, Int.reduceAdd, Int.reduceMul, Int.reduceSub, Int.reduceEq, Int.reduceNe]
  (first | refine WF_pure (cRaise l a b) rfl ?_ | refine WDQ_pure (cRaise l a b) rfl ?_)
  simp (config := { maxSteps := 400000 }) only [pairPV, go_sem, ↓reduceIte, reduceCtorEq, Nat.reduceEqDiff, Nat.reduceAdd, Nat.reduceLT, Nat.reduceLeDiff, Nat.reduceSub, Int.reduceToNat, Int.reduceLE, Int.reduceLT, Int.reduceNeg, Int.reduceBEq, Int.reduceBNe, Nat.reduceMul, Int.reduceAdd, Int.reduceMul, Int.reduceSub, Int.reduceEq, Int.reduceNe]
  (first | refine WF_pure (cRefRaise l a b) rfl ?_ | refine WDQ_pure (cRefRaise l a b) rfl ?_)
  simp (config := { maxSteps := 400000 }) only [pairPV, beq_self_eq_true, go_sem, ↓reduceIte, reduceCtorEq, Nat.reduceEqDiff, Nat.reduceAdd, Nat.reduceLT, Nat.reduceLeDiff, Nat.reduceSub, Int.reduceToNat, Int.reduceLE, Int.reduceLT, Int.reduceNeg, Int.reduceBEq, Int.reduceBNe, Nat.reduceMul, Int.reduceAdd, Int.reduceMul, Int.reduceSub, Int.reduceEq, Int.reduceNe]
  (first | refine WF_pure (cAwake) rfl ?_ | refine WDQ_pure (cAwake) rfl ?_)
  simp (config := { maxSteps := 400000 }) only [go_sem, ↓reduceIte, reduceCtorEq, Nat.reduceEqDiff, Nat.reduceAdd, Nat.reduceLT, Nat.reduceLeDiff, Nat.reduceSub, Int.reduceToNat, Int.reduceLE, Int.reduceLT, Int.reduceNeg, Int.reduceBEq, Int.reduceBNe, Nat.reduceMul, Int.reduceAdd, Int.reduceMul, Int.reduceSub, Int.reduceEq, Int.reduceNe]
end Abs
end Go.Proofs.Ythekmbikolpmlaa
