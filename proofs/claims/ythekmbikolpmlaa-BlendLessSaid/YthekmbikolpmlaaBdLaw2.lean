/-
  CONTRACTS: the laws BlendValues, BlendWishes, BlendKnown, BlendLots, BlendWeighed.
-/
import Derived.Test.YthekmbikolpmlaaBdLaw1
namespace Go.Proofs.Ythekmbikolpmlaa
namespace Abs
set_option linter.unusedSimpArgs false
set_option linter.unusedVariables false
set_option maxRecDepth 100000

theorem weighGo_len (g : Int) : ∀ (r : List Int) (b : Int), (weighGo g b r).length = r.length
  | [], _ => rfl
  | n :: r, b => by rw [weighGo, List.length_cons, weighGo_len g r, List.length_cons]
theorem weigh_small (l : List BdWax) (r : List Int) (g : Int) : (bdWeigh l r g).1.length < 1000000000 := by
  unfold bdWeigh
  split
  · rename_i h
    obtain ⟨h1, h2⟩ := bdAsked_ok h
    split
    · have := h1.len
      have := h2.len
      simp only [weighGo_len]; omega
    · simp
  · simp
theorem cheap_small (l : List BdWax) (w : BdWish) : (bdCheapest l w).1.length < 1000000000 := by
  unfold bdCheapest
  split
  · rename_i h
    obtain ⟨h1, h2⟩ := wishOk_of h
    split
    · simp
    · rename_i b hb
      rcases cheapGo_mem _ _ _ _ hb with h | h
      · cases h
      · have := (fits_rec h1 h).1.len
        have := h1.len
        dsimp only; omega
  · simp
theorem lBlendValues (l : List BdWax) (r : List Int) (y : List BdLot) (g : Int) : PCall Try.prog 4 [bdWaxes l, ints r, .agg [bdLots y, .int .i64 g]] (.bool true) := by
  refine pcall_of_wp draws (fn := Try.f4) (n := 113) (rs := [.tmp 6]) (by kernel_rfl) rfl rfl rfl ok4 (Nat.le_of_ble_eq_true rfl) ?_
  have hws := weigh_small l r g
  simp (config := { maxSteps := 400000 }) only [go_sem, ↓reduceIte, reduceCtorEq, Nat.reduceEqDiff, Nat.reduceAdd, Nat.reduceLT, Nat.reduceLeDiff, Nat.reduceSub, Int.reduceToNat, Int.reduceLE, Int.reduceLT, Int.reduceNeg, Int.reduceBEq, Int.reduceBNe, Nat.reduceMul, Int.reduceAdd, Int.reduceMul, Int.reduceSub, Int.reduceEq, Int.reduceNe]
  (first | refine WF_pure (cValue l r false) rfl ?_ | refine WDQ_pure (cValue l r false) rfl ?_)
  simp (config := { maxSteps := 400000 }) only [valuePV, go_sem, ↓reduceIte, reduceCtorEq, Nat.reduceEqDiff, Nat.reduceAdd, Nat.reduceLT, Nat.reduceLeDiff, Nat.reduceSub, Int.reduceToNat, Int.reduceLE, Int.reduceLT, Int.reduceNeg, Int.reduceBEq, Int.reduceBNe, Nat.reduceMul, Int.reduceAdd, Int.reduceMul, Int.reduceSub, Int.reduceEq, Int.reduceNe]
  (first | refine WF_pure (cRefValue l r false) rfl ?_ | refine WDQ_pure (cRefValue l r false) rfl ?_)
  simp (config := { maxSteps := 400000 }) only [valuePV, beq_self_eq_true, bne_self_eq_false, go_sem, ↓reduceIte, reduceCtorEq, Nat.reduceEqDiff, Nat.reduceAdd, Nat.reduceLT, Nat.reduceLeDiff, Nat.reduceSub, Int.reduceToNat, Int.reduceLE, Int.reduceLT, Int.reduceNeg, Int.reduceBEq, Int.reduceBNe, Nat.reduceMul, Int.reduceAdd, Int.reduceMul, Int.reduceSub, Int.reduceEq, Int.reduceNe]
  (first | refine WF_pure (cMade l r y false false) rfl ?_ | refine WDQ_pure (cMade l r y false false) rfl ?_)
  simp (config := { maxSteps := 400000 }) only [triple, go_sem, ↓reduceIte, reduceCtorEq, Nat.reduceEqDiff, Nat.reduceAdd, Nat.reduceLT, Nat.reduceLeDiff, Nat.reduceSub, Int.reduceToNat, Int.reduceLE, Int.reduceLT, Int.reduceNeg, Int.reduceBEq, Int.reduceBNe, Nat.reduceMul, Int.reduceAdd, Int.reduceMul, Int.reduceSub, Int.reduceEq, Int.reduceNe]
  (first | refine WF_pure (cRefMade l r y false false) rfl ?_ | refine WDQ_pure (cRefMade l r y false false) rfl ?_)
  simp (config := { maxSteps := 400000 }) only [triple, beq_self_eq_true, bne_self_eq_false, go_sem, ↓reduceIte, reduceCtorEq, Nat.reduceEqDiff, Nat.reduceAdd, Nat.reduceLT, Nat.reduceLeDiff, Nat.reduceSub, Int.reduceToNat, Int.reduceLE, Int.reduceLT, Int.reduceNeg, Int.reduceBEq, Int.reduceBNe, Nat.reduceMul, Int.reduceAdd, Int.reduceMul, Int.reduceSub, Int.reduceEq, Int.reduceNe]
  (first | refine WF_pure (cWeigh l r g false) rfl ?_ | refine WDQ_pure (cWeigh l r g false) rfl ?_)
  simp (config := { maxSteps := 400000 }) only [weighPV, go_sem, ↓reduceIte, reduceCtorEq, Nat.reduceEqDiff, Nat.reduceAdd, Nat.reduceLT, Nat.reduceLeDiff, Nat.reduceSub, Int.reduceToNat, Int.reduceLE, Int.reduceLT, Int.reduceNeg, Int.reduceBEq, Int.reduceBNe, Nat.reduceMul, Int.reduceAdd, Int.reduceMul, Int.reduceSub, Int.reduceEq, Int.reduceNe]
  (first | refine WF_pure (cRefWeigh l r g false) rfl ?_ | refine WDQ_pure (cRefWeigh l r g false) rfl ?_)
  simp (config := { maxSteps := 400000 }) only [weighPV, beq_self_eq_true, bne_self_eq_false, go_sem, ↓reduceIte, reduceCtorEq, Nat.reduceEqDiff, Nat.reduceAdd, Nat.reduceLT, Nat.reduceLeDiff, Nat.reduceSub, Int.reduceToNat, Int.reduceLE, Int.reduceLT, Int.reduceNeg, Int.reduceBEq, Int.reduceBNe, Nat.reduceMul, Int.reduceAdd, Int.reduceMul, Int.reduceSub, Int.reduceEq, Int.reduceNe]
  (first | refine WF_pure (cIntsT _ false false hws) rfl ?_ | refine WDQ_pure (cIntsT _ false false hws) rfl ?_)
  simp (config := { maxSteps := 400000 }) only [beq_self_eq_true, go_sem, ↓reduceIte, reduceCtorEq, Nat.reduceEqDiff, Nat.reduceAdd, Nat.reduceLT, Nat.reduceLeDiff, Nat.reduceSub, Int.reduceToNat, Int.reduceLE, Int.reduceLT, Int.reduceNeg, Int.reduceBEq, Int.reduceBNe, Nat.reduceMul, Int.reduceAdd, Int.reduceMul, Int.reduceSub, Int.reduceEq, Int.reduceNe]
  (first | refine WF_pure (cAwake) rfl ?_ | refine WDQ_pure (cAwake) rfl ?_)
  simp (config := { maxSteps := 400000 }) only [go_sem, ↓reduceIte, reduceCtorEq, Nat.reduceEqDiff, Nat.reduceAdd, Nat.reduceLT, Nat.reduceLeDiff, Nat.reduceSub, Int.reduceToNat, Int.reduceLE, Int.reduceLT, Int.reduceNeg, Int.reduceBEq, Int.reduceBNe, Nat.reduceMul, Int.reduceAdd, Int.reduceMul, Int.reduceSub, Int.reduceEq, Int.reduceNe]
theorem lBlendWishes (l : List BdWax) (w : BdWish) (r : List Int) (k : Int) : PCall Try.prog 5 [bdWaxes l, w.pv, .agg [ints r, .int .i64 k]] (.bool true) := by
  refine pcall_of_wp draws (fn := Try.f5) (n := 100) (rs := [.tmp 6]) (by kernel_rfl) rfl rfl rfl ok5 (Nat.le_of_ble_eq_true rfl) ?_
  have hws := cheap_small l w
  simp (config := { maxSteps := 400000 }) only [go_sem, ↓reduceIte, reduceCtorEq, Nat.reduceEqDiff, Nat.reduceAdd, Nat.reduceLT, Nat.reduceLeDiff, Nat.reduceSub, Int.reduceToNat, Int.reduceLE, Int.reduceLT, Int.reduceNeg, Int.reduceBEq, Int.reduceBNe, Nat.reduceMul, Int.reduceAdd, Int.reduceMul, Int.reduceSub, Int.reduceEq, Int.reduceNe]
  (first | refine WF_pure (cFits l w r false) rfl ?_ | refine WDQ_pure (cFits l w r false) rfl ?_)
  simp (config := { maxSteps := 400000 }) only [pairPV, go_sem, ↓reduceIte, reduceCtorEq, Nat.reduceEqDiff, Nat.reduceAdd, Nat.reduceLT, Nat.reduceLeDiff, Nat.reduceSub, Int.reduceToNat, Int.reduceLE, Int.reduceLT, Int.reduceNeg, Int.reduceBEq, Int.reduceBNe, Nat.reduceMul, Int.reduceAdd, Int.reduceMul, Int.reduceSub, Int.reduceEq, Int.reduceNe]
  (first | refine WF_pure (cRefFits l w r false) rfl ?_ | refine WDQ_pure (cRefFits l w r false) rfl ?_)
  simp (config := { maxSteps := 400000 }) only [pairPV, beq_self_eq_true, bne_self_eq_false, go_sem, ↓reduceIte, reduceCtorEq, Nat.reduceEqDiff, Nat.reduceAdd, Nat.reduceLT, Nat.reduceLeDiff, Nat.reduceSub, Int.reduceToNat, Int.reduceLE, Int.reduceLT, Int.reduceNeg, Int.reduceBEq, Int.reduceBNe, Nat.reduceMul, Int.reduceAdd, Int.reduceMul, Int.reduceSub, Int.reduceEq, Int.reduceNe]
  (first | refine WF_pure (cCheapest l w) rfl ?_ | refine WDQ_pure (cCheapest l w) rfl ?_)
  simp (config := { maxSteps := 400000 }) only [bestPV, go_sem, ↓reduceIte, reduceCtorEq, Nat.reduceEqDiff, Nat.reduceAdd, Nat.reduceLT, Nat.reduceLeDiff, Nat.reduceSub, Int.reduceToNat, Int.reduceLE, Int.reduceLT, Int.reduceNeg, Int.reduceBEq, Int.reduceBNe, Nat.reduceMul, Int.reduceAdd, Int.reduceMul, Int.reduceSub, Int.reduceEq, Int.reduceNe]
  (first | refine WF_pure (cRefCheapest l w) rfl ?_ | refine WDQ_pure (cRefCheapest l w) rfl ?_)
  simp (config := { maxSteps := 400000 }) only [bestPV, beq_self_eq_true, bne_self_eq_false, go_sem, ↓reduceIte, reduceCtorEq, Nat.reduceEqDiff, Nat.reduceAdd, Nat.reduceLT, Nat.reduceLeDiff, Nat.reduceSub, Int.reduceToNat, Int.reduceLE, Int.reduceLT, Int.reduceNeg, Int.reduceBEq, Int.reduceBNe, Nat.reduceMul, Int.reduceAdd, Int.reduceMul, Int.reduceSub, Int.reduceEq, Int.reduceNe]
  (first | refine WF_pure (cIntsT _ false false hws) rfl ?_ | refine WDQ_pure (cIntsT _ false false hws) rfl ?_)
  simp (config := { maxSteps := 400000 }) only [beq_self_eq_true, bne_self_eq_false, go_sem, ↓reduceIte, reduceCtorEq, Nat.reduceEqDiff, Nat.reduceAdd, Nat.reduceLT, Nat.reduceLeDiff, Nat.reduceSub, Int.reduceToNat, Int.reduceLE, Int.reduceLT, Int.reduceNeg, Int.reduceBEq, Int.reduceBNe, Nat.reduceMul, Int.reduceAdd, Int.reduceMul, Int.reduceSub, Int.reduceEq, Int.reduceNe]
  (first | refine WF_pure (cStays l w r false k) rfl ?_ | refine WDQ_pure (cStays l w r false k) rfl ?_)
  simp (config := { maxSteps := 400000 }) only [staysPV, go_sem, ↓reduceIte, reduceCtorEq, Nat.reduceEqDiff, Nat.reduceAdd, Nat.reduceLT, Nat.reduceLeDiff, Nat.reduceSub, Int.reduceToNat, Int.reduceLE, Int.reduceLT, Int.reduceNeg, Int.reduceBEq, Int.reduceBNe, Nat.reduceMul, Int.reduceAdd, Int.reduceMul, Int.reduceSub, Int.reduceEq, Int.reduceNe]
  (first | refine WF_pure (cRefStays l w r false k) rfl ?_ | refine WDQ_pure (cRefStays l w r false k) rfl ?_)
  simp (config := { maxSteps := 400000 }) only [staysPV, beq_self_eq_true, bne_self_eq_false, go_sem, ↓reduceIte, reduceCtorEq, Nat.reduceEqDiff, Nat.reduceAdd, Nat.reduceLT, Nat.reduceLeDiff, Nat.reduceSub, Int.reduceToNat, Int.reduceLE, Int.reduceLT, Int.reduceNeg, Int.reduceBEq, Int.reduceBNe, Nat.reduceMul, Int.reduceAdd, Int.reduceMul, Int.reduceSub, Int.reduceEq, Int.reduceNe]
  (first | refine WF_pure (cAwake) rfl ?_ | refine WDQ_pure (cAwake) rfl ?_)
  simp (config := { maxSteps := 400000 }) only [go_sem, ↓reduceIte, reduceCtorEq, Nat.reduceEqDiff, Nat.reduceAdd, Nat.reduceLT, Nat.reduceLeDiff, Nat.reduceSub, Int.reduceToNat, Int.reduceLE, Int.reduceLT, Int.reduceNeg, Int.reduceBEq, Int.reduceBNe, Nat.reduceMul, Int.reduceAdd, Int.reduceMul, Int.reduceSub, Int.reduceEq, Int.reduceNe]
set_option maxHeartbeats 2000000 in
theorem lBlendKnown : PCall Try.prog 6 [] (.bool true) := by
  refine pcall_of_wp draws (fn := Try.f6) (n := 119) (rs := [.tmp 0]) (by kernel_rfl) rfl rfl rfl ok6 (Nat.le_of_ble_eq_true rfl) ?_
  simp (config := { maxSteps := 400000 }) only [go_sem, ↓reduceIte, reduceCtorEq, Nat.reduceEqDiff, Nat.reduceAdd, Nat.reduceLT, Nat.reduceLeDiff, Nat.reduceSub, Int.reduceToNat, Int.reduceLE, Int.reduceLT, Int.reduceNeg, Int.reduceBEq, Int.reduceBNe, Nat.reduceMul, Int.reduceAdd, Int.reduceMul, Int.reduceSub, Int.reduceEq, Int.reduceNe]
  repeat' first
    | (refine W_unroll ?_; simp (config := { maxSteps := 400000 }) only [go_sem, ↓reduceIte, reduceCtorEq, Nat.reduceEqDiff, Nat.reduceAdd, Nat.reduceLT, Nat.reduceLeDiff, Nat.reduceSub, Int.reduceToNat, Int.reduceLE, Int.reduceLT, Int.reduceNeg, Int.reduceBEq, Int.reduceBNe, Nat.reduceMul, Int.reduceAdd, Int.reduceMul, Int.reduceSub, Int.reduceEq, Int.reduceNe])
    | ((first | refine WF_pure (cWaxes) rfl ?_ | refine WDQ_pure (cWaxes) rfl ?_); simp (config := { maxSteps := 400000 }) only [go_sem, ↓reduceIte, reduceCtorEq, Nat.reduceEqDiff, Nat.reduceAdd, Nat.reduceLT, Nat.reduceLeDiff, Nat.reduceSub, Int.reduceToNat, Int.reduceLE, Int.reduceLT, Int.reduceNeg, Int.reduceBEq, Int.reduceBNe, Nat.reduceMul, Int.reduceAdd, Int.reduceMul, Int.reduceSub, Int.reduceEq, Int.reduceNe])
    | ((first | refine WF_pure (cWish) rfl ?_ | refine WDQ_pure (cWish) rfl ?_); simp (config := { maxSteps := 400000 }) only [go_sem, ↓reduceIte, reduceCtorEq, Nat.reduceEqDiff, Nat.reduceAdd, Nat.reduceLT, Nat.reduceLeDiff, Nat.reduceSub, Int.reduceToNat, Int.reduceLE, Int.reduceLT, Int.reduceNeg, Int.reduceBEq, Int.reduceBNe, Nat.reduceMul, Int.reduceAdd, Int.reduceMul, Int.reduceSub, Int.reduceEq, Int.reduceNe])
    | ((first | refine WF_pure (kRaise2) rfl ?_ | refine WDQ_pure (kRaise2) rfl ?_); simp (config := { maxSteps := 400000 }) only [pairPV, go_sem, ↓reduceIte, reduceCtorEq, Nat.reduceEqDiff, Nat.reduceAdd, Nat.reduceLT, Nat.reduceLeDiff, Nat.reduceSub, Int.reduceToNat, Int.reduceLE, Int.reduceLT, Int.reduceNeg, Int.reduceBEq, Int.reduceBNe, Nat.reduceMul, Int.reduceAdd, Int.reduceMul, Int.reduceSub, Int.reduceEq, Int.reduceNe])
    | ((first | refine WF_pure (kRaise3) rfl ?_ | refine WDQ_pure (kRaise3) rfl ?_); simp (config := { maxSteps := 400000 }) only [pairPV, go_sem, ↓reduceIte, reduceCtorEq, Nat.reduceEqDiff, Nat.reduceAdd, Nat.reduceLT, Nat.reduceLeDiff, Nat.reduceSub, Int.reduceToNat, Int.reduceLE, Int.reduceLT, Int.reduceNeg, Int.reduceBEq, Int.reduceBNe, Nat.reduceMul, Int.reduceAdd, Int.reduceMul, Int.reduceSub, Int.reduceEq, Int.reduceNe])
    | ((first | refine WF_pure (kRaise4) rfl ?_ | refine WDQ_pure (kRaise4) rfl ?_); simp (config := { maxSteps := 400000 }) only [pairPV, go_sem, ↓reduceIte, reduceCtorEq, Nat.reduceEqDiff, Nat.reduceAdd, Nat.reduceLT, Nat.reduceLeDiff, Nat.reduceSub, Int.reduceToNat, Int.reduceLE, Int.reduceLT, Int.reduceNeg, Int.reduceBEq, Int.reduceBNe, Nat.reduceMul, Int.reduceAdd, Int.reduceMul, Int.reduceSub, Int.reduceEq, Int.reduceNe])
    | ((first | refine WF_pure (kFits1 true) rfl ?_ | refine WDQ_pure (kFits1 true) rfl ?_); simp (config := { maxSteps := 400000 }) only [pairPV, go_sem, ↓reduceIte, reduceCtorEq, Nat.reduceEqDiff, Nat.reduceAdd, Nat.reduceLT, Nat.reduceLeDiff, Nat.reduceSub, Int.reduceToNat, Int.reduceLE, Int.reduceLT, Int.reduceNeg, Int.reduceBEq, Int.reduceBNe, Nat.reduceMul, Int.reduceAdd, Int.reduceMul, Int.reduceSub, Int.reduceEq, Int.reduceNe])
    | ((first | refine WF_pure (kFits2 true) rfl ?_ | refine WDQ_pure (kFits2 true) rfl ?_); simp (config := { maxSteps := 400000 }) only [pairPV, go_sem, ↓reduceIte, reduceCtorEq, Nat.reduceEqDiff, Nat.reduceAdd, Nat.reduceLT, Nat.reduceLeDiff, Nat.reduceSub, Int.reduceToNat, Int.reduceLE, Int.reduceLT, Int.reduceNeg, Int.reduceBEq, Int.reduceBNe, Nat.reduceMul, Int.reduceAdd, Int.reduceMul, Int.reduceSub, Int.reduceEq, Int.reduceNe])
    | ((first | refine WF_pure (kStays1 true) rfl ?_ | refine WDQ_pure (kStays1 true) rfl ?_); simp (config := { maxSteps := 400000 }) only [staysPV, go_sem, ↓reduceIte, reduceCtorEq, Nat.reduceEqDiff, Nat.reduceAdd, Nat.reduceLT, Nat.reduceLeDiff, Nat.reduceSub, Int.reduceToNat, Int.reduceLE, Int.reduceLT, Int.reduceNeg, Int.reduceBEq, Int.reduceBNe, Nat.reduceMul, Int.reduceAdd, Int.reduceMul, Int.reduceSub, Int.reduceEq, Int.reduceNe])
    | ((first | refine WF_pure (kStays2 true) rfl ?_ | refine WDQ_pure (kStays2 true) rfl ?_); simp (config := { maxSteps := 400000 }) only [staysPV, go_sem, ↓reduceIte, reduceCtorEq, Nat.reduceEqDiff, Nat.reduceAdd, Nat.reduceLT, Nat.reduceLeDiff, Nat.reduceSub, Int.reduceToNat, Int.reduceLE, Int.reduceLT, Int.reduceNeg, Int.reduceBEq, Int.reduceBNe, Nat.reduceMul, Int.reduceAdd, Int.reduceMul, Int.reduceSub, Int.reduceEq, Int.reduceNe])
    | ((first | refine WF_pure (kWeigh1 true) rfl ?_ | refine WDQ_pure (kWeigh1 true) rfl ?_); simp (config := { maxSteps := 400000 }) only [weighPV, List.append_eq, go_sem, ↓reduceIte, reduceCtorEq, Nat.reduceEqDiff, Nat.reduceAdd, Nat.reduceLT, Nat.reduceLeDiff, Nat.reduceSub, Int.reduceToNat, Int.reduceLE, Int.reduceLT, Int.reduceNeg, Int.reduceBEq, Int.reduceBNe, Nat.reduceMul, Int.reduceAdd, Int.reduceMul, Int.reduceSub, Int.reduceEq, Int.reduceNe])
    | (refine WDQ_pure (cLawSpan _ _) rfl ?_; simp (config := { maxSteps := 400000 }) only [List.append_eq, go_sem, ↓reduceIte, reduceCtorEq, Nat.reduceEqDiff, Nat.reduceAdd, Nat.reduceLT, Nat.reduceLeDiff, Nat.reduceSub, Int.reduceToNat, Int.reduceLE, Int.reduceLT, Int.reduceNeg, Int.reduceBEq, Int.reduceBNe, Nat.reduceMul, Int.reduceAdd, Int.reduceMul, Int.reduceSub, Int.reduceEq, Int.reduceNe])
    | (refine WDQ_pure (cIntsT [200, 750, 50] false true (by decide)) rfl ?_; simp (config := { maxSteps := 400000 }) only [List.append_eq, go_sem, ↓reduceIte, reduceCtorEq, Nat.reduceEqDiff, Nat.reduceAdd, Nat.reduceLT, Nat.reduceLeDiff, Nat.reduceSub, Int.reduceToNat, Int.reduceLE, Int.reduceLT, Int.reduceNeg, Int.reduceBEq, Int.reduceBNe, Nat.reduceMul, Int.reduceAdd, Int.reduceMul, Int.reduceSub, Int.reduceEq, Int.reduceNe])
    | (refine WDQ_pure cAwake rfl ?_; simp (config := { maxSteps := 400000 }) only [List.append_eq, go_sem, ↓reduceIte, reduceCtorEq, Nat.reduceEqDiff, Nat.reduceAdd, Nat.reduceLT, Nat.reduceLeDiff, Nat.reduceSub, Int.reduceToNat, Int.reduceLE, Int.reduceLT, Int.reduceNeg, Int.reduceBEq, Int.reduceBNe, Nat.reduceMul, Int.reduceAdd, Int.reduceMul, Int.reduceSub, Int.reduceEq, Int.reduceNe])
end Abs
end Go.Proofs.Ythekmbikolpmlaa
