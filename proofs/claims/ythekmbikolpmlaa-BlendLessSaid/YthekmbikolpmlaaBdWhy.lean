/-
  CONTRACTS: why a recipe does not fit a wish, Fits, Made, Weigh; in the program and in the reference.
-/
import Derived.Test.YthekmbikolpmlaaBdFit
namespace Go.Proofs.Ythekmbikolpmlaa
namespace Abs
set_option linter.unusedSimpArgs false
set_option maxRecDepth 4000

def partsOut (w : BdWish) (r : List Int) : Bool := (r.zip w.parts).any fun q => !gIn q.1 q.2.lo q.2.hi
def whyS (l : List BdWax) (w : BdWish) (r : List Int) : Int :=
  if partsOut w r = true then 1
  else if (meltP (l.zip r)).lo < 20 * w.melt.lo then 2
  else if 20 * w.melt.hi < (meltP (l.zip r)).hi then 3
  else if (shrinkP (l.zip r)).lo < 20 * w.shrink.lo ∨ 20 * w.shrink.hi < (shrinkP (l.zip r)).hi then 4
  else 0
theorem cWhy0 {l : List BdWax} {w : BdWish} {r : List Int} (b : Bool) (hl : BdWaxesOk l) (hw : WishOk l.length w) (hlen : r.length = l.length) (hr : ∀ n, n ∈ r → 0 ≤ n ∧ n ≤ 20) :
    PCall Try.prog 73 [bdWaxes l, w.pv, .slice 1 (r.map intPV) b] (.int .i64 (whyS l w r)) := by
  refine pcall_of_wp draws (fn := Try.f73) (n := 74) (rs := [.tmp 6]) (by kernel_rfl) rfl rfl rfl ok73 (Nat.le_of_ble_eq_true rfl) ?_
  have hl5 := hl.len
  have hwl := hw.len
  have m1 : IntKind.i64.wrap (20 * w.melt.lo) = 20 * w.melt.lo := wrap_in (by have := hw.melt; omega) (by have := hw.melt; omega)
  have m2 : IntKind.i64.wrap (20 * w.melt.hi) = 20 * w.melt.hi := wrap_in (by have := hw.melt; omega) (by have := hw.melt; omega)
  have m3 : IntKind.i64.wrap (20 * w.shrink.lo) = 20 * w.shrink.lo := wrap_in (by have := hw.shrink; omega) (by have := hw.shrink; omega)
  have m4 : IntKind.i64.wrap (20 * w.shrink.hi) = 20 * w.shrink.hi := wrap_in (by have := hw.shrink; omega) (by have := hw.shrink; omega)
  have hz1 : ((r.zip w.parts).map fun q => q.1) = r := by have := zip_fst (fun x => x) (l := r) (r := w.parts) (by omega); simpa using this
  have hz2 : ((r.zip w.parts).map fun q => q.2) = w.parts := by have := zip_snd (fun x => x) (l := r) (r := w.parts) (by omega); simpa using this
  have hzl : (r.zip w.parts).length = r.length := by simp; omega
  simp (config := { maxSteps := 400000 }) only [go_sem, ↓reduceIte, reduceCtorEq, Nat.reduceEqDiff, Nat.reduceAdd, Nat.reduceLT, Nat.reduceLeDiff, Nat.reduceSub, Int.reduceToNat, Int.reduceLE, Int.reduceLT, Int.reduceNeg, Int.reduceBEq, Int.reduceBNe, Nat.reduceMul, Int.reduceAdd, Int.reduceMul, Int.reduceSub, Int.reduceEq, Int.reduceNe]
  refine W_rangeA [0, 2, 4, 11, 12] (r.zip w.parts) (by omega) (τ := Unit) (fun done rest _ => partsOut w r = rest.any fun q => !gIn q.1 q.2.lo q.2.hi) (fun done _ => [(13, .p (.int .i64 done.length))]) (fun _ _ => [.row 5 [.p w.pv]]) () rfl ?_ ?_ ?_
  · simp (config := { maxSteps := 400000 }) only [go_sem, ↓reduceIte, reduceCtorEq, Nat.reduceEqDiff, Nat.reduceAdd, Nat.reduceLT, Nat.reduceLeDiff, Nat.reduceSub, Int.reduceToNat, Int.reduceLE, Int.reduceLT, Int.reduceNeg, Int.reduceBEq, Int.reduceBNe, Nat.reduceMul, Int.reduceAdd, Int.reduceMul, Int.reduceSub, Int.reduceEq, Int.reduceNe] <;> simp
  · intro _ e2
    have e2' : partsOut w r = false := by rw [e2]; rfl
    have g1 : ¬ ((r.zip w.parts).length : Int) < (r.length : Int) := by omega
    have g2 : ¬ ((r.zip w.parts).length : Int) < (l.length : Int) := by omega
    simp (config := { maxSteps := 400000 }) only [g1, g2, go_sem, ↓reduceIte, reduceCtorEq, Nat.reduceEqDiff, Nat.reduceAdd, Nat.reduceLT, Nat.reduceLeDiff, Nat.reduceSub, Int.reduceToNat, Int.reduceLE, Int.reduceLT, Int.reduceNeg, Int.reduceBEq, Int.reduceBNe, Nat.reduceMul, Int.reduceAdd, Int.reduceMul, Int.reduceSub, Int.reduceEq, Int.reduceNe]
    first
      | (first | refine WF_pure (cBlendZ false b hl hlen) rfl ?_ | refine WDQ_pure (cBlendZ false b hl hlen) rfl ?_)
        simp (config := { maxSteps := 400000 }) only [go_sem, ↓reduceIte, reduceCtorEq, Nat.reduceEqDiff, Nat.reduceAdd, Nat.reduceLT, Nat.reduceLeDiff, Nat.reduceSub, Int.reduceToNat, Int.reduceLE, Int.reduceLT, Int.reduceNeg, Int.reduceBEq, Int.reduceBNe, Nat.reduceMul, Int.reduceAdd, Int.reduceMul, Int.reduceSub, Int.reduceEq, Int.reduceNe]
        (first | refine WF_pure (cEnds (l.zip r) false (psOk_zip hl hr)) rfl ?_ | refine WDQ_pure (cEnds (l.zip r) false (psOk_zip hl hr)) rfl ?_)
      | (first | refine WF_pure (cRefEndsZ false b hl hlen hr) rfl ?_ | refine WDQ_pure (cRefEndsZ false b hl hlen hr) rfl ?_)
    simp (config := { maxSteps := 400000 }) only [m1, m2, m3, m4, go_sem, ↓reduceIte, reduceCtorEq, Nat.reduceEqDiff, Nat.reduceAdd, Nat.reduceLT, Nat.reduceLeDiff, Nat.reduceSub, Int.reduceToNat, Int.reduceLE, Int.reduceLT, Int.reduceNeg, Int.reduceBEq, Int.reduceBNe, Nat.reduceMul, Int.reduceAdd, Int.reduceMul, Int.reduceSub, Int.reduceEq, Int.reduceNe]
    refine WB_split (fun h1 => ?_) (fun h1 => ?_)
    · have h1' : (meltP (l.zip r)).lo < 20 * w.melt.lo := by simpa using h1
      simp (config := { maxSteps := 400000 }) only [whyS, e2', if_pos h1', go_sem, ↓reduceIte, reduceCtorEq, Nat.reduceEqDiff, Nat.reduceAdd, Nat.reduceLT, Nat.reduceLeDiff, Nat.reduceSub, Int.reduceToNat, Int.reduceLE, Int.reduceLT, Int.reduceNeg, Int.reduceBEq, Int.reduceBNe, Nat.reduceMul, Int.reduceAdd, Int.reduceMul, Int.reduceSub, Int.reduceEq, Int.reduceNe]
    have h1' : ¬ (meltP (l.zip r)).lo < 20 * w.melt.lo := by simpa using h1
    simp (config := { maxSteps := 400000 }) only [m1, m2, m3, m4, go_sem, ↓reduceIte, reduceCtorEq, Nat.reduceEqDiff, Nat.reduceAdd, Nat.reduceLT, Nat.reduceLeDiff, Nat.reduceSub, Int.reduceToNat, Int.reduceLE, Int.reduceLT, Int.reduceNeg, Int.reduceBEq, Int.reduceBNe, Nat.reduceMul, Int.reduceAdd, Int.reduceMul, Int.reduceSub, Int.reduceEq, Int.reduceNe]
    refine WB_split (fun h2 => ?_) (fun h2 => ?_)
    · have h2' : 20 * w.melt.hi < (meltP (l.zip r)).hi := by simpa using h2
      simp (config := { maxSteps := 400000 }) only [whyS, e2', if_neg h1', if_pos h2', go_sem, ↓reduceIte, reduceCtorEq, Nat.reduceEqDiff, Nat.reduceAdd, Nat.reduceLT, Nat.reduceLeDiff, Nat.reduceSub, Int.reduceToNat, Int.reduceLE, Int.reduceLT, Int.reduceNeg, Int.reduceBEq, Int.reduceBNe, Nat.reduceMul, Int.reduceAdd, Int.reduceMul, Int.reduceSub, Int.reduceEq, Int.reduceNe]
    have h2' : ¬ 20 * w.melt.hi < (meltP (l.zip r)).hi := by simpa using h2
    simp (config := { maxSteps := 400000 }) only [m1, m2, m3, m4, go_sem, ↓reduceIte, reduceCtorEq, Nat.reduceEqDiff, Nat.reduceAdd, Nat.reduceLT, Nat.reduceLeDiff, Nat.reduceSub, Int.reduceToNat, Int.reduceLE, Int.reduceLT, Int.reduceNeg, Int.reduceBEq, Int.reduceBNe, Nat.reduceMul, Int.reduceAdd, Int.reduceMul, Int.reduceSub, Int.reduceEq, Int.reduceNe]
    cases h3 : decide ((shrinkP (l.zip r)).lo < 20 * w.shrink.lo)
    · simp (config := { maxSteps := 400000 }) only [m1, m2, m3, m4, h3, go_sem, ↓reduceIte, reduceCtorEq, Nat.reduceEqDiff, Nat.reduceAdd, Nat.reduceLT, Nat.reduceLeDiff, Nat.reduceSub, Int.reduceToNat, Int.reduceLE, Int.reduceLT, Int.reduceNeg, Int.reduceBEq, Int.reduceBNe, Nat.reduceMul, Int.reduceAdd, Int.reduceMul, Int.reduceSub, Int.reduceEq, Int.reduceNe]
      refine WB_split (fun h4 => ?_) (fun h4 => ?_)
      · have h4' : (shrinkP (l.zip r)).lo < 20 * w.shrink.lo ∨ 20 * w.shrink.hi < (shrinkP (l.zip r)).hi := .inr (by simpa using h4)
        simp (config := { maxSteps := 400000 }) only [whyS, e2', if_neg h1', if_neg h2', if_pos h4', go_sem, ↓reduceIte, reduceCtorEq, Nat.reduceEqDiff, Nat.reduceAdd, Nat.reduceLT, Nat.reduceLeDiff, Nat.reduceSub, Int.reduceToNat, Int.reduceLE, Int.reduceLT, Int.reduceNeg, Int.reduceBEq, Int.reduceBNe, Nat.reduceMul, Int.reduceAdd, Int.reduceMul, Int.reduceSub, Int.reduceEq, Int.reduceNe]
      · have h4' : ¬ ((shrinkP (l.zip r)).lo < 20 * w.shrink.lo ∨ 20 * w.shrink.hi < (shrinkP (l.zip r)).hi) := by simp at h3 h4; omega
        simp (config := { maxSteps := 400000 }) only [whyS, e2', if_neg h1', if_neg h2', if_neg h4', go_sem, ↓reduceIte, reduceCtorEq, Nat.reduceEqDiff, Nat.reduceAdd, Nat.reduceLT, Nat.reduceLeDiff, Nat.reduceSub, Int.reduceToNat, Int.reduceLE, Int.reduceLT, Int.reduceNeg, Int.reduceBEq, Int.reduceBNe, Nat.reduceMul, Int.reduceAdd, Int.reduceMul, Int.reduceSub, Int.reduceEq, Int.reduceNe]
    · have h4' : (shrinkP (l.zip r)).lo < 20 * w.shrink.lo ∨ 20 * w.shrink.hi < (shrinkP (l.zip r)).hi := .inl (by simpa using h3)
      simp (config := { maxSteps := 400000 }) only [h3, whyS, e2', if_neg h1', if_neg h2', if_pos h4', go_sem, ↓reduceIte, reduceCtorEq, Nat.reduceEqDiff, Nat.reduceAdd, Nat.reduceLT, Nat.reduceLeDiff, Nat.reduceSub, Int.reduceToNat, Int.reduceLE, Int.reduceLT, Int.reduceNeg, Int.reduceBEq, Int.reduceBNe, Nat.reduceMul, Int.reduceAdd, Int.reduceMul, Int.reduceSub, Int.reduceEq, Int.reduceNe]
  · intro done x rest _ e1 e2 hx hlt hnx
    have g1 : (done.length : Int) < (r.length : Int) := by omega
    have g2 : (done.length : Int) < (l.length : Int) := by omega
    have g3 : (done.length : Int) < (w.parts.length : Int) := by omega
    have x1 : r[done.length]? = some x.1 := by rw [← hz1, List.getElem?_map, hx]; rfl
    have x2 : w.parts[done.length]? = some x.2 := by rw [← hz2, List.getElem?_map, hx]; rfl
    simp (config := { maxSteps := 400000 }) only [g1, g2, g3, x1, x2, go_sem, ↓reduceIte, reduceCtorEq, Nat.reduceEqDiff, Nat.reduceAdd, Nat.reduceLT, Nat.reduceLeDiff, Nat.reduceSub, Int.reduceToNat, Int.reduceLE, Int.reduceLT, Int.reduceNeg, Int.reduceBEq, Int.reduceBNe, Nat.reduceMul, Int.reduceAdd, Int.reduceMul, Int.reduceSub, Int.reduceEq, Int.reduceNe]
    first
      | (first | refine WF_pure (cBdOut _ _ [_] true (by simp)) rfl ?_ | refine WDQ_pure (cBdOut _ _ [_] true (by simp)) rfl ?_)
      | (first | refine WF_pure (cIn1 _ _ _) rfl ?_ | refine WDQ_pure (cIn1 _ _ _) rfl ?_)
    simp (config := { maxSteps := 400000 }) only [List.any_cons, List.any_nil, Bool.or_false, go_sem, ↓reduceIte, reduceCtorEq, Nat.reduceEqDiff, Nat.reduceAdd, Nat.reduceLT, Nat.reduceLeDiff, Nat.reduceSub, Int.reduceToNat, Int.reduceLE, Int.reduceLT, Int.reduceNeg, Int.reduceBEq, Int.reduceBNe, Nat.reduceMul, Int.reduceAdd, Int.reduceMul, Int.reduceSub, Int.reduceEq, Int.reduceNe]
    cases hg : gIn x.1 x.2.lo x.2.hi
    · simp (config := { maxSteps := 400000 }) only [go_sem, ↓reduceIte, reduceCtorEq, Nat.reduceEqDiff, Nat.reduceAdd, Nat.reduceLT, Nat.reduceLeDiff, Nat.reduceSub, Int.reduceToNat, Int.reduceLE, Int.reduceLT, Int.reduceNeg, Int.reduceBEq, Int.reduceBNe, Nat.reduceMul, Int.reduceAdd, Int.reduceMul, Int.reduceSub, Int.reduceEq, Int.reduceNe]
      have e2' : partsOut w r = true := by rw [e2, List.any_cons, hg]; rfl
      simp (config := { maxSteps := 400000 }) only [whyS, e2', go_sem, ↓reduceIte, reduceCtorEq, Nat.reduceEqDiff, Nat.reduceAdd, Nat.reduceLT, Nat.reduceLeDiff, Nat.reduceSub, Int.reduceToNat, Int.reduceLE, Int.reduceLT, Int.reduceNeg, Int.reduceBEq, Int.reduceBNe, Nat.reduceMul, Int.reduceAdd, Int.reduceMul, Int.reduceSub, Int.reduceEq, Int.reduceNe]
    · simp (config := { maxSteps := 400000 }) only [go_sem, ↓reduceIte, reduceCtorEq, Nat.reduceEqDiff, Nat.reduceAdd, Nat.reduceLT, Nat.reduceLeDiff, Nat.reduceSub, Int.reduceToNat, Int.reduceLE, Int.reduceLT, Int.reduceNeg, Int.reduceBEq, Int.reduceBNe, Nat.reduceMul, Int.reduceAdd, Int.reduceMul, Int.reduceSub, Int.reduceEq, Int.reduceNe]
      refine WQ_next e1 () (by rw [e2, List.any_cons, hg]; rfl) ?_
      simp (config := { maxSteps := 400000 }) only [hnx, go_sem, ↓reduceIte, reduceCtorEq, Nat.reduceEqDiff, Nat.reduceAdd, Nat.reduceLT, Nat.reduceLeDiff, Nat.reduceSub, Int.reduceToNat, Int.reduceLE, Int.reduceLT, Int.reduceNeg, Int.reduceBEq, Int.reduceBNe, Nat.reduceMul, Int.reduceAdd, Int.reduceMul, Int.reduceSub, Int.reduceEq, Int.reduceNe]
theorem cWhy1 {l : List BdWax} {w : BdWish} {r : List Int} (b : Bool) (hl : BdWaxesOk l) (hw : WishOk l.length w) (hlen : r.length = l.length) (hr : ∀ n, n ∈ r → 0 ≤ n ∧ n ≤ 20) :
    PCall Try.prog 42 [bdWaxes l, w.pv, .slice 1 (r.map intPV) b] (.int .i64 (whyS l w r)) := by
  refine pcall_of_wp draws (fn := Try.f42) (n := 70) (rs := [.tmp 6]) (by kernel_rfl) rfl rfl rfl ok42 (Nat.le_of_ble_eq_true rfl) ?_
  have hl5 := hl.len
  have hwl := hw.len
  have m1 : IntKind.i64.wrap (20 * w.melt.lo) = 20 * w.melt.lo := wrap_in (by have := hw.melt; omega) (by have := hw.melt; omega)
  have m2 : IntKind.i64.wrap (20 * w.melt.hi) = 20 * w.melt.hi := wrap_in (by have := hw.melt; omega) (by have := hw.melt; omega)
  have m3 : IntKind.i64.wrap (20 * w.shrink.lo) = 20 * w.shrink.lo := wrap_in (by have := hw.shrink; omega) (by have := hw.shrink; omega)
  have m4 : IntKind.i64.wrap (20 * w.shrink.hi) = 20 * w.shrink.hi := wrap_in (by have := hw.shrink; omega) (by have := hw.shrink; omega)
  have hz1 : ((r.zip w.parts).map fun q => q.1) = r := by have := zip_fst (fun x => x) (l := r) (r := w.parts) (by omega); simpa using this
  have hz2 : ((r.zip w.parts).map fun q => q.2) = w.parts := by have := zip_snd (fun x => x) (l := r) (r := w.parts) (by omega); simpa using this
  have hzl : (r.zip w.parts).length = r.length := by simp; omega
  simp (config := { maxSteps := 400000 }) only [go_sem, ↓reduceIte, reduceCtorEq, Nat.reduceEqDiff, Nat.reduceAdd, Nat.reduceLT, Nat.reduceLeDiff, Nat.reduceSub, Int.reduceToNat, Int.reduceLE, Int.reduceLT, Int.reduceNeg, Int.reduceBEq, Int.reduceBNe, Nat.reduceMul, Int.reduceAdd, Int.reduceMul, Int.reduceSub, Int.reduceEq, Int.reduceNe]
  refine W_rangeA [0, 2, 4] (r.zip w.parts) (by omega) (τ := Unit) (fun done rest _ => partsOut w r = rest.any fun q => !gIn q.1 q.2.lo q.2.hi) (fun done _ => [(7, .p (.int .i64 done.length))]) (fun _ _ => [.row 5 [.p w.pv]]) () rfl ?_ ?_ ?_
  · simp (config := { maxSteps := 400000 }) only [go_sem, ↓reduceIte, reduceCtorEq, Nat.reduceEqDiff, Nat.reduceAdd, Nat.reduceLT, Nat.reduceLeDiff, Nat.reduceSub, Int.reduceToNat, Int.reduceLE, Int.reduceLT, Int.reduceNeg, Int.reduceBEq, Int.reduceBNe, Nat.reduceMul, Int.reduceAdd, Int.reduceMul, Int.reduceSub, Int.reduceEq, Int.reduceNe] <;> simp
  · intro _ e2
    have e2' : partsOut w r = false := by rw [e2]; rfl
    have g1 : ¬ ((r.zip w.parts).length : Int) < (r.length : Int) := by omega
    have g2 : ¬ ((r.zip w.parts).length : Int) < (l.length : Int) := by omega
    simp (config := { maxSteps := 400000 }) only [g1, g2, go_sem, ↓reduceIte, reduceCtorEq, Nat.reduceEqDiff, Nat.reduceAdd, Nat.reduceLT, Nat.reduceLeDiff, Nat.reduceSub, Int.reduceToNat, Int.reduceLE, Int.reduceLT, Int.reduceNeg, Int.reduceBEq, Int.reduceBNe, Nat.reduceMul, Int.reduceAdd, Int.reduceMul, Int.reduceSub, Int.reduceEq, Int.reduceNe]
    first
      | (first | refine WF_pure (cBlendZ false b hl hlen) rfl ?_ | refine WDQ_pure (cBlendZ false b hl hlen) rfl ?_)
        simp (config := { maxSteps := 400000 }) only [go_sem, ↓reduceIte, reduceCtorEq, Nat.reduceEqDiff, Nat.reduceAdd, Nat.reduceLT, Nat.reduceLeDiff, Nat.reduceSub, Int.reduceToNat, Int.reduceLE, Int.reduceLT, Int.reduceNeg, Int.reduceBEq, Int.reduceBNe, Nat.reduceMul, Int.reduceAdd, Int.reduceMul, Int.reduceSub, Int.reduceEq, Int.reduceNe]
        (first | refine WF_pure (cEnds (l.zip r) false (psOk_zip hl hr)) rfl ?_ | refine WDQ_pure (cEnds (l.zip r) false (psOk_zip hl hr)) rfl ?_)
      | (first | refine WF_pure (cRefEndsZ false b hl hlen hr) rfl ?_ | refine WDQ_pure (cRefEndsZ false b hl hlen hr) rfl ?_)
    simp (config := { maxSteps := 400000 }) only [m1, m2, m3, m4, go_sem, ↓reduceIte, reduceCtorEq, Nat.reduceEqDiff, Nat.reduceAdd, Nat.reduceLT, Nat.reduceLeDiff, Nat.reduceSub, Int.reduceToNat, Int.reduceLE, Int.reduceLT, Int.reduceNeg, Int.reduceBEq, Int.reduceBNe, Nat.reduceMul, Int.reduceAdd, Int.reduceMul, Int.reduceSub, Int.reduceEq, Int.reduceNe]
    refine WB_split (fun h1 => ?_) (fun h1 => ?_)
    · have h1' : (meltP (l.zip r)).lo < 20 * w.melt.lo := by simpa using h1
      simp (config := { maxSteps := 400000 }) only [whyS, e2', if_pos h1', go_sem, ↓reduceIte, reduceCtorEq, Nat.reduceEqDiff, Nat.reduceAdd, Nat.reduceLT, Nat.reduceLeDiff, Nat.reduceSub, Int.reduceToNat, Int.reduceLE, Int.reduceLT, Int.reduceNeg, Int.reduceBEq, Int.reduceBNe, Nat.reduceMul, Int.reduceAdd, Int.reduceMul, Int.reduceSub, Int.reduceEq, Int.reduceNe]
    have h1' : ¬ (meltP (l.zip r)).lo < 20 * w.melt.lo := by simpa using h1
    simp (config := { maxSteps := 400000 }) only [m1, m2, m3, m4, go_sem, ↓reduceIte, reduceCtorEq, Nat.reduceEqDiff, Nat.reduceAdd, Nat.reduceLT, Nat.reduceLeDiff, Nat.reduceSub, Int.reduceToNat, Int.reduceLE, Int.reduceLT, Int.reduceNeg, Int.reduceBEq, Int.reduceBNe, Nat.reduceMul, Int.reduceAdd, Int.reduceMul, Int.reduceSub, Int.reduceEq, Int.reduceNe]
    refine WB_split (fun h2 => ?_) (fun h2 => ?_)
    · have h2' : 20 * w.melt.hi < (meltP (l.zip r)).hi := by simpa using h2
      simp (config := { maxSteps := 400000 }) only [whyS, e2', if_neg h1', if_pos h2', go_sem, ↓reduceIte, reduceCtorEq, Nat.reduceEqDiff, Nat.reduceAdd, Nat.reduceLT, Nat.reduceLeDiff, Nat.reduceSub, Int.reduceToNat, Int.reduceLE, Int.reduceLT, Int.reduceNeg, Int.reduceBEq, Int.reduceBNe, Nat.reduceMul, Int.reduceAdd, Int.reduceMul, Int.reduceSub, Int.reduceEq, Int.reduceNe]
    have h2' : ¬ 20 * w.melt.hi < (meltP (l.zip r)).hi := by simpa using h2
    simp (config := { maxSteps := 400000 }) only [m1, m2, m3, m4, go_sem, ↓reduceIte, reduceCtorEq, Nat.reduceEqDiff, Nat.reduceAdd, Nat.reduceLT, Nat.reduceLeDiff, Nat.reduceSub, Int.reduceToNat, Int.reduceLE, Int.reduceLT, Int.reduceNeg, Int.reduceBEq, Int.reduceBNe, Nat.reduceMul, Int.reduceAdd, Int.reduceMul, Int.reduceSub, Int.reduceEq, Int.reduceNe]
    cases h3 : decide ((shrinkP (l.zip r)).lo < 20 * w.shrink.lo)
    · simp (config := { maxSteps := 400000 }) only [m1, m2, m3, m4, h3, go_sem, ↓reduceIte, reduceCtorEq, Nat.reduceEqDiff, Nat.reduceAdd, Nat.reduceLT, Nat.reduceLeDiff, Nat.reduceSub, Int.reduceToNat, Int.reduceLE, Int.reduceLT, Int.reduceNeg, Int.reduceBEq, Int.reduceBNe, Nat.reduceMul, Int.reduceAdd, Int.reduceMul, Int.reduceSub, Int.reduceEq, Int.reduceNe]
      refine WB_split (fun h4 => ?_) (fun h4 => ?_)
      · have h4' : (shrinkP (l.zip r)).lo < 20 * w.shrink.lo ∨ 20 * w.shrink.hi < (shrinkP (l.zip r)).hi := .inr (by simpa using h4)
        simp (config := { maxSteps := 400000 }) only [whyS, e2', if_neg h1', if_neg h2', if_pos h4', go_sem, ↓reduceIte, reduceCtorEq, Nat.reduceEqDiff, Nat.reduceAdd, Nat.reduceLT, Nat.reduceLeDiff, Nat.reduceSub, Int.reduceToNat, Int.reduceLE, Int.reduceLT, Int.reduceNeg, Int.reduceBEq, Int.reduceBNe, Nat.reduceMul, Int.reduceAdd, Int.reduceMul, Int.reduceSub, Int.reduceEq, Int.reduceNe]
      · have h4' : ¬ ((shrinkP (l.zip r)).lo < 20 * w.shrink.lo ∨ 20 * w.shrink.hi < (shrinkP (l.zip r)).hi) := by simp at h3 h4; omega
        simp (config := { maxSteps := 400000 }) only [whyS, e2', if_neg h1', if_neg h2', if_neg h4', go_sem, ↓reduceIte, reduceCtorEq, Nat.reduceEqDiff, Nat.reduceAdd, Nat.reduceLT, Nat.reduceLeDiff, Nat.reduceSub, Int.reduceToNat, Int.reduceLE, Int.reduceLT, Int.reduceNeg, Int.reduceBEq, Int.reduceBNe, Nat.reduceMul, Int.reduceAdd, Int.reduceMul, Int.reduceSub, Int.reduceEq, Int.reduceNe]
    · have h4' : (shrinkP (l.zip r)).lo < 20 * w.shrink.lo ∨ 20 * w.shrink.hi < (shrinkP (l.zip r)).hi := .inl (by simpa using h3)
      simp (config := { maxSteps := 400000 }) only [h3, whyS, e2', if_neg h1', if_neg h2', if_pos h4', go_sem, ↓reduceIte, reduceCtorEq, Nat.reduceEqDiff, Nat.reduceAdd, Nat.reduceLT, Nat.reduceLeDiff, Nat.reduceSub, Int.reduceToNat, Int.reduceLE, Int.reduceLT, Int.reduceNeg, Int.reduceBEq, Int.reduceBNe, Nat.reduceMul, Int.reduceAdd, Int.reduceMul, Int.reduceSub, Int.reduceEq, Int.reduceNe]
  · intro done x rest _ e1 e2 hx hlt hnx
    have g1 : (done.length : Int) < (r.length : Int) := by omega
    have g2 : (done.length : Int) < (l.length : Int) := by omega
    have g3 : (done.length : Int) < (w.parts.length : Int) := by omega
    have x1 : r[done.length]? = some x.1 := by rw [← hz1, List.getElem?_map, hx]; rfl
    have x2 : w.parts[done.length]? = some x.2 := by rw [← hz2, List.getElem?_map, hx]; rfl
    simp (config := { maxSteps := 400000 }) only [g1, g2, g3, x1, x2, go_sem, ↓reduceIte, reduceCtorEq, Nat.reduceEqDiff, Nat.reduceAdd, Nat.reduceLT, Nat.reduceLeDiff, Nat.reduceSub, Int.reduceToNat, Int.reduceLE, Int.reduceLT, Int.reduceNeg, Int.reduceBEq, Int.reduceBNe, Nat.reduceMul, Int.reduceAdd, Int.reduceMul, Int.reduceSub, Int.reduceEq, Int.reduceNe]
    first
      | (first | refine WF_pure (cBdOut _ _ [_] true (by simp)) rfl ?_ | refine WDQ_pure (cBdOut _ _ [_] true (by simp)) rfl ?_)
      | (first | refine WF_pure (cIn1 _ _ _) rfl ?_ | refine WDQ_pure (cIn1 _ _ _) rfl ?_)
    simp (config := { maxSteps := 400000 }) only [List.any_cons, List.any_nil, Bool.or_false, go_sem, ↓reduceIte, reduceCtorEq, Nat.reduceEqDiff, Nat.reduceAdd, Nat.reduceLT, Nat.reduceLeDiff, Nat.reduceSub, Int.reduceToNat, Int.reduceLE, Int.reduceLT, Int.reduceNeg, Int.reduceBEq, Int.reduceBNe, Nat.reduceMul, Int.reduceAdd, Int.reduceMul, Int.reduceSub, Int.reduceEq, Int.reduceNe]
    cases hg : gIn x.1 x.2.lo x.2.hi
    · simp (config := { maxSteps := 400000 }) only [go_sem, ↓reduceIte, reduceCtorEq, Nat.reduceEqDiff, Nat.reduceAdd, Nat.reduceLT, Nat.reduceLeDiff, Nat.reduceSub, Int.reduceToNat, Int.reduceLE, Int.reduceLT, Int.reduceNeg, Int.reduceBEq, Int.reduceBNe, Nat.reduceMul, Int.reduceAdd, Int.reduceMul, Int.reduceSub, Int.reduceEq, Int.reduceNe]
      have e2' : partsOut w r = true := by rw [e2, List.any_cons, hg]; rfl
      simp (config := { maxSteps := 400000 }) only [whyS, e2', go_sem, ↓reduceIte, reduceCtorEq, Nat.reduceEqDiff, Nat.reduceAdd, Nat.reduceLT, Nat.reduceLeDiff, Nat.reduceSub, Int.reduceToNat, Int.reduceLE, Int.reduceLT, Int.reduceNeg, Int.reduceBEq, Int.reduceBNe, Nat.reduceMul, Int.reduceAdd, Int.reduceMul, Int.reduceSub, Int.reduceEq, Int.reduceNe]
    · simp (config := { maxSteps := 400000 }) only [go_sem, ↓reduceIte, reduceCtorEq, Nat.reduceEqDiff, Nat.reduceAdd, Nat.reduceLT, Nat.reduceLeDiff, Nat.reduceSub, Int.reduceToNat, Int.reduceLE, Int.reduceLT, Int.reduceNeg, Int.reduceBEq, Int.reduceBNe, Nat.reduceMul, Int.reduceAdd, Int.reduceMul, Int.reduceSub, Int.reduceEq, Int.reduceNe]
      refine WQ_next e1 () (by rw [e2, List.any_cons, hg]; rfl) ?_
      simp (config := { maxSteps := 400000 }) only [hnx, go_sem, ↓reduceIte, reduceCtorEq, Nat.reduceEqDiff, Nat.reduceAdd, Nat.reduceLT, Nat.reduceLeDiff, Nat.reduceSub, Int.reduceToNat, Int.reduceLE, Int.reduceLT, Int.reduceNeg, Int.reduceBEq, Int.reduceBNe, Nat.reduceMul, Int.reduceAdd, Int.reduceMul, Int.reduceSub, Int.reduceEq, Int.reduceNe]

/-! Fits -/
def bdFits (l : List BdWax) (w : BdWish) (r : List Int) : Int × Int :=
  if wishErr l w = 0 then (if recErr l.length r = 0 then (whyS l w r, 0) else (0, recErr l.length r)) else (0, wishErr l w)
theorem cFits (l : List BdWax) (w : BdWish) (r : List Int) (b : Bool) : PCall Try.prog 27 [bdWaxes l, w.pv, .slice 1 (r.map intPV) b] (pairPV (bdFits l w r)) := by
  refine pcall_of_wp draws (fn := Try.f27) (n := 26) (rs := [.tmp 6, .tmp 7]) (by kernel_rfl) rfl rfl rfl ok27 (Nat.le_of_ble_eq_true rfl) ?_
  simp (config := { maxSteps := 400000 }) only [go_sem, ↓reduceIte, reduceCtorEq, Nat.reduceEqDiff, Nat.reduceAdd, Nat.reduceLT, Nat.reduceLeDiff, Nat.reduceSub, Int.reduceToNat, Int.reduceLE, Int.reduceLT, Int.reduceNeg, Int.reduceBEq, Int.reduceBNe, Nat.reduceMul, Int.reduceAdd, Int.reduceMul, Int.reduceSub, Int.reduceEq, Int.reduceNe]
  (first | refine WF_pure (cOdd l w) rfl ?_ | refine WDQ_pure (cOdd l w) rfl ?_)
  simp (config := { maxSteps := 400000 }) only [go_sem, ↓reduceIte, reduceCtorEq, Nat.reduceEqDiff, Nat.reduceAdd, Nat.reduceLT, Nat.reduceLeDiff, Nat.reduceSub, Int.reduceToNat, Int.reduceLE, Int.reduceLT, Int.reduceNeg, Int.reduceBEq, Int.reduceBNe, Nat.reduceMul, Int.reduceAdd, Int.reduceMul, Int.reduceSub, Int.reduceEq, Int.reduceNe]
  refine WB_split (fun he => ?_) (fun he => ?_)
  · have he' : ¬ wishErr l w = 0 := by simpa using he
    simp (config := { maxSteps := 400000 }) only [pairPV, bdFits, if_neg he', go_sem, ↓reduceIte, reduceCtorEq, Nat.reduceEqDiff, Nat.reduceAdd, Nat.reduceLT, Nat.reduceLeDiff, Nat.reduceSub, Int.reduceToNat, Int.reduceLE, Int.reduceLT, Int.reduceNeg, Int.reduceBEq, Int.reduceBNe, Nat.reduceMul, Int.reduceAdd, Int.reduceMul, Int.reduceSub, Int.reduceEq, Int.reduceNe]
  have he' : wishErr l w = 0 := by simpa using he
  obtain ⟨hl, hw⟩ := wishOk_of he'
  simp (config := { maxSteps := 400000 }) only [go_sem, ↓reduceIte, reduceCtorEq, Nat.reduceEqDiff, Nat.reduceAdd, Nat.reduceLT, Nat.reduceLeDiff, Nat.reduceSub, Int.reduceToNat, Int.reduceLE, Int.reduceLT, Int.reduceNeg, Int.reduceBEq, Int.reduceBNe, Nat.reduceMul, Int.reduceAdd, Int.reduceMul, Int.reduceSub, Int.reduceEq, Int.reduceNe]
  (first | refine WF_pure (cStrange l r b hl.len.2) rfl ?_ | refine WDQ_pure (cStrange l r b hl.len.2) rfl ?_)
  simp (config := { maxSteps := 400000 }) only [go_sem, ↓reduceIte, reduceCtorEq, Nat.reduceEqDiff, Nat.reduceAdd, Nat.reduceLT, Nat.reduceLeDiff, Nat.reduceSub, Int.reduceToNat, Int.reduceLE, Int.reduceLT, Int.reduceNeg, Int.reduceBEq, Int.reduceBNe, Nat.reduceMul, Int.reduceAdd, Int.reduceMul, Int.reduceSub, Int.reduceEq, Int.reduceNe]
  refine WB_split (fun hr => ?_) (fun hr => ?_)
  · have hr' : ¬ recErr l.length r = 0 := by simpa using hr
    simp (config := { maxSteps := 400000 }) only [pairPV, bdFits, if_pos he', if_neg hr', go_sem, ↓reduceIte, reduceCtorEq, Nat.reduceEqDiff, Nat.reduceAdd, Nat.reduceLT, Nat.reduceLeDiff, Nat.reduceSub, Int.reduceToNat, Int.reduceLE, Int.reduceLT, Int.reduceNeg, Int.reduceBEq, Int.reduceBNe, Nat.reduceMul, Int.reduceAdd, Int.reduceMul, Int.reduceSub, Int.reduceEq, Int.reduceNe]
  have hr' : recErr l.length r = 0 := by simpa using hr
  have hro := recOk_of hr'
  simp (config := { maxSteps := 400000 }) only [go_sem, ↓reduceIte, reduceCtorEq, Nat.reduceEqDiff, Nat.reduceAdd, Nat.reduceLT, Nat.reduceLeDiff, Nat.reduceSub, Int.reduceToNat, Int.reduceLE, Int.reduceLT, Int.reduceNeg, Int.reduceBEq, Int.reduceBNe, Nat.reduceMul, Int.reduceAdd, Int.reduceMul, Int.reduceSub, Int.reduceEq, Int.reduceNe]
  (first | refine WF_pure (cWhy0 b hl hw hro.len hro.rng) rfl ?_ | refine WDQ_pure (cWhy0 b hl hw hro.len hro.rng) rfl ?_)
  simp (config := { maxSteps := 400000 }) only [pairPV, bdFits, if_pos he', if_pos hr', go_sem, ↓reduceIte, reduceCtorEq, Nat.reduceEqDiff, Nat.reduceAdd, Nat.reduceLT, Nat.reduceLeDiff, Nat.reduceSub, Int.reduceToNat, Int.reduceLE, Int.reduceLT, Int.reduceNeg, Int.reduceBEq, Int.reduceBNe, Nat.reduceMul, Int.reduceAdd, Int.reduceMul, Int.reduceSub, Int.reduceEq, Int.reduceNe]
theorem cRefFits (l : List BdWax) (w : BdWish) (r : List Int) (b : Bool) : PCall Try.prog 28 [bdWaxes l, w.pv, .slice 1 (r.map intPV) b] (pairPV (bdFits l w r)) := by
  refine pcall_of_wp draws (fn := Try.f28) (n := 25) (rs := [.tmp 6, .tmp 7]) (by kernel_rfl) rfl rfl rfl ok28 (Nat.le_of_ble_eq_true rfl) ?_
  simp (config := { maxSteps := 400000 }) only [go_sem, ↓reduceIte, reduceCtorEq, Nat.reduceEqDiff, Nat.reduceAdd, Nat.reduceLT, Nat.reduceLeDiff, Nat.reduceSub, Int.reduceToNat, Int.reduceLE, Int.reduceLT, Int.reduceNeg, Int.reduceBEq, Int.reduceBNe, Nat.reduceMul, Int.reduceAdd, Int.reduceMul, Int.reduceSub, Int.reduceEq, Int.reduceNe]
  (first | refine WF_pure (cRefWish l w) rfl ?_ | refine WDQ_pure (cRefWish l w) rfl ?_)
  simp (config := { maxSteps := 400000 }) only [go_sem, ↓reduceIte, reduceCtorEq, Nat.reduceEqDiff, Nat.reduceAdd, Nat.reduceLT, Nat.reduceLeDiff, Nat.reduceSub, Int.reduceToNat, Int.reduceLE, Int.reduceLT, Int.reduceNeg, Int.reduceBEq, Int.reduceBNe, Nat.reduceMul, Int.reduceAdd, Int.reduceMul, Int.reduceSub, Int.reduceEq, Int.reduceNe]
  cases he : (wishErr l w == 0)
  · have he' : ¬ wishErr l w = 0 := by simpa using he
    have hen : (wishErr l w != 0) = true := by simp [bne, he]
    simp (config := { maxSteps := 400000 }) only [hen, pairPV, bdFits, if_neg he', go_sem, ↓reduceIte, reduceCtorEq, Nat.reduceEqDiff, Nat.reduceAdd, Nat.reduceLT, Nat.reduceLeDiff, Nat.reduceSub, Int.reduceToNat, Int.reduceLE, Int.reduceLT, Int.reduceNeg, Int.reduceBEq, Int.reduceBNe, Nat.reduceMul, Int.reduceAdd, Int.reduceMul, Int.reduceSub, Int.reduceEq, Int.reduceNe]
  have he' : wishErr l w = 0 := by simpa using he
  obtain ⟨hl, hw⟩ := wishOk_of he'
  simp (config := { maxSteps := 400000 }) only [go_sem, ↓reduceIte, reduceCtorEq, Nat.reduceEqDiff, Nat.reduceAdd, Nat.reduceLT, Nat.reduceLeDiff, Nat.reduceSub, Int.reduceToNat, Int.reduceLE, Int.reduceLT, Int.reduceNeg, Int.reduceBEq, Int.reduceBNe, Nat.reduceMul, Int.reduceAdd, Int.reduceMul, Int.reduceSub, Int.reduceEq, Int.reduceNe]
  (first | refine WF_pure (cRefRecipe l.length r b hl.len.2) rfl ?_ | refine WDQ_pure (cRefRecipe l.length r b hl.len.2) rfl ?_)
  simp (config := { maxSteps := 400000 }) only [go_sem, ↓reduceIte, reduceCtorEq, Nat.reduceEqDiff, Nat.reduceAdd, Nat.reduceLT, Nat.reduceLeDiff, Nat.reduceSub, Int.reduceToNat, Int.reduceLE, Int.reduceLT, Int.reduceNeg, Int.reduceBEq, Int.reduceBNe, Nat.reduceMul, Int.reduceAdd, Int.reduceMul, Int.reduceSub, Int.reduceEq, Int.reduceNe]
  refine WB_split (fun hr => ?_) (fun hr => ?_)
  · have hr' : ¬ recErr l.length r = 0 := by simpa using hr
    simp (config := { maxSteps := 400000 }) only [pairPV, bdFits, if_pos he', if_neg hr', go_sem, ↓reduceIte, reduceCtorEq, Nat.reduceEqDiff, Nat.reduceAdd, Nat.reduceLT, Nat.reduceLeDiff, Nat.reduceSub, Int.reduceToNat, Int.reduceLE, Int.reduceLT, Int.reduceNeg, Int.reduceBEq, Int.reduceBNe, Nat.reduceMul, Int.reduceAdd, Int.reduceMul, Int.reduceSub, Int.reduceEq, Int.reduceNe]
  have hr' : recErr l.length r = 0 := by simpa using hr
  have hro := recOk_of hr'
  simp (config := { maxSteps := 400000 }) only [go_sem, ↓reduceIte, reduceCtorEq, Nat.reduceEqDiff, Nat.reduceAdd, Nat.reduceLT, Nat.reduceLeDiff, Nat.reduceSub, Int.reduceToNat, Int.reduceLE, Int.reduceLT, Int.reduceNeg, Int.reduceBEq, Int.reduceBNe, Nat.reduceMul, Int.reduceAdd, Int.reduceMul, Int.reduceSub, Int.reduceEq, Int.reduceNe]
  (first | refine WF_pure (cWhy1 b hl hw hro.len hro.rng) rfl ?_ | refine WDQ_pure (cWhy1 b hl hw hro.len hro.rng) rfl ?_)
  simp (config := { maxSteps := 400000 }) only [pairPV, bdFits, if_pos he', if_pos hr', go_sem, ↓reduceIte, reduceCtorEq, Nat.reduceEqDiff, Nat.reduceAdd, Nat.reduceLT, Nat.reduceLeDiff, Nat.reduceSub, Int.reduceToNat, Int.reduceLE, Int.reduceLT, Int.reduceNeg, Int.reduceBEq, Int.reduceBNe, Nat.reduceMul, Int.reduceAdd, Int.reduceMul, Int.reduceSub, Int.reduceEq, Int.reduceNe]

/-! Weigh -/
/-- the grams of each, with so many parts before -/
def weighGo (g : Int) : Int → List Int → List Int
  | _, [] => []
  | b, n :: r => (g * (b + n) / 20 - g * b / 20) :: weighGo g (b + n) r
def bdWeigh (l : List BdWax) (r : List Int) (g : Int) : List Int × Int :=
  if bdAsked l r = 0 then (if gIn g 0 1000000 = true then (weighGo g 0 r, 0) else ([], 7)) else ([], bdAsked l r)
def weighPV (v : List Int × Int) : PV := .tuple [.slice 1 (v.1.map intPV) false, .int .i64 v.2]
theorem weigh_nums {g b : Int} (hg : 0 ≤ g ∧ g ≤ 1000000) (hb : 0 ≤ b ∧ b ≤ 1000) : IntKind.i64.wrap (g * b) = g * b ∧ IntKind.i64.wrap ((g * b).tdiv 20) = g * b / 20 ∧ 0 ≤ g * b / 20 ∧ g * b / 20 ≤ 50000000 := by
  obtain ⟨h1, h2⟩ := mul_bd hg.1 hg.2 hb.1 hb.2
  have h3 : (g * b).tdiv 20 = g * b / 20 := Int.tdiv_eq_ediv_of_nonneg h1
  have h4 : 0 ≤ g * b / 20 := Int.ediv_nonneg h1 (by omega)
  refine ⟨wrap_in (by omega) (by omega), ?_, h4, by omega⟩
  rw [h3]
  exact wrap_in (by omega) (by omega)
theorem cWeigh (l : List BdWax) (r : List Int) (g : Int) (b : Bool) : PCall Try.prog 24 [bdWaxes l, .slice 1 (r.map intPV) b, .int .i64 g] (weighPV (bdWeigh l r g)) := by
  refine pcall_of_wp_frzN draws (fn := Try.f24) (n := 45) (rs := [.tmp 6, .tmp 7]) (by kernel_rfl) rfl rfl rfl ok24 (Nat.le_of_ble_eq_true rfl) ?_
  simp (config := { maxSteps := 400000 }) only [go_sem, ↓reduceIte, reduceCtorEq, Nat.reduceEqDiff, Nat.reduceAdd, Nat.reduceLT, Nat.reduceLeDiff, Nat.reduceSub, Int.reduceToNat, Int.reduceLE, Int.reduceLT, Int.reduceNeg, Int.reduceBEq, Int.reduceBNe, Nat.reduceMul, Int.reduceAdd, Int.reduceMul, Int.reduceSub, Int.reduceEq, Int.reduceNe]
  (first | refine WF_pure (cAsked l r b) rfl ?_ | refine WDQ_pure (cAsked l r b) rfl ?_)
  simp (config := { maxSteps := 400000 }) only [go_sem, ↓reduceIte, reduceCtorEq, Nat.reduceEqDiff, Nat.reduceAdd, Nat.reduceLT, Nat.reduceLeDiff, Nat.reduceSub, Int.reduceToNat, Int.reduceLE, Int.reduceLT, Int.reduceNeg, Int.reduceBEq, Int.reduceBNe, Nat.reduceMul, Int.reduceAdd, Int.reduceMul, Int.reduceSub, Int.reduceEq, Int.reduceNe]
  refine WB_split (fun he => ?_) (fun he => ?_)
  · have he' : ¬ bdAsked l r = 0 := by simpa using he
    simp (config := { maxSteps := 400000 }) only [weighPV, bdWeigh, if_neg he', go_sem, ↓reduceIte, reduceCtorEq, Nat.reduceEqDiff, Nat.reduceAdd, Nat.reduceLT, Nat.reduceLeDiff, Nat.reduceSub, Int.reduceToNat, Int.reduceLE, Int.reduceLT, Int.reduceNeg, Int.reduceBEq, Int.reduceBNe, Nat.reduceMul, Int.reduceAdd, Int.reduceMul, Int.reduceSub, Int.reduceEq, Int.reduceNe]
    first | exact .inl (.inl rfl) | exact .inl (.inr ⟨rfl, 1, rfl⟩) | exact .inr ⟨_, _, rfl, rfl, .inl rfl, .inl rfl, trivial⟩ | exact .inr ⟨_, _, rfl, rfl, .inr ⟨rfl, 1, rfl⟩, .inl rfl, trivial⟩ | exact ⟨1, rfl⟩ | (simp; done) | (refine .inr ⟨_, _, rfl, rfl, ?_⟩; repeat' (first | exact trivial | exact .inl rfl | exact .inr ⟨rfl, 1, rfl⟩ | refine ⟨?_, ?_⟩))
  have he' : bdAsked l r = 0 := by simpa using he
  obtain ⟨h1, h2⟩ := bdAsked_ok he'
  simp (config := { maxSteps := 400000 }) only [go_sem, ↓reduceIte, reduceCtorEq, Nat.reduceEqDiff, Nat.reduceAdd, Nat.reduceLT, Nat.reduceLeDiff, Nat.reduceSub, Int.reduceToNat, Int.reduceLE, Int.reduceLT, Int.reduceNeg, Int.reduceBEq, Int.reduceBNe, Nat.reduceMul, Int.reduceAdd, Int.reduceMul, Int.reduceSub, Int.reduceEq, Int.reduceNe]
  (first | refine WF_pure (cBdOut 0 1000000 [_] true (by simp)) rfl ?_ | refine WDQ_pure (cBdOut 0 1000000 [_] true (by simp)) rfl ?_)
  simp (config := { maxSteps := 400000 }) only [List.any_cons, List.any_nil, Bool.or_false, go_sem, ↓reduceIte, reduceCtorEq, Nat.reduceEqDiff, Nat.reduceAdd, Nat.reduceLT, Nat.reduceLeDiff, Nat.reduceSub, Int.reduceToNat, Int.reduceLE, Int.reduceLT, Int.reduceNeg, Int.reduceBEq, Int.reduceBNe, Nat.reduceMul, Int.reduceAdd, Int.reduceMul, Int.reduceSub, Int.reduceEq, Int.reduceNe]
  cases hg : gIn g 0 1000000
  · simp (config := { maxSteps := 400000 }) only [weighPV, bdWeigh, if_pos he', hg, go_sem, ↓reduceIte, reduceCtorEq, Nat.reduceEqDiff, Nat.reduceAdd, Nat.reduceLT, Nat.reduceLeDiff, Nat.reduceSub, Int.reduceToNat, Int.reduceLE, Int.reduceLT, Int.reduceNeg, Int.reduceBEq, Int.reduceBNe, Nat.reduceMul, Int.reduceAdd, Int.reduceMul, Int.reduceSub, Int.reduceEq, Int.reduceNe]
    first | exact .inl (.inl rfl) | exact .inl (.inr ⟨rfl, 1, rfl⟩) | exact .inr ⟨_, _, rfl, rfl, .inl rfl, .inl rfl, trivial⟩ | exact .inr ⟨_, _, rfl, rfl, .inr ⟨rfl, 1, rfl⟩, .inl rfl, trivial⟩ | exact ⟨1, rfl⟩ | (simp; done) | (refine .inr ⟨_, _, rfl, rfl, ?_⟩; repeat' (first | exact trivial | exact .inl rfl | exact .inr ⟨rfl, 1, rfl⟩ | refine ⟨?_, ?_⟩))
  have hg' : 0 ≤ g ∧ g ≤ 1000000 := by simp [gIn] at hg; omega
  have hspec : bdWeigh l r g = (weighGo g 0 r, 0) := by simp [bdWeigh, he', hg]
  have hl5 := h1.len
  have hrl := h2.len
  rw [hspec]
  simp (config := { maxSteps := 400000 }) only [go_sem, ↓reduceIte, reduceCtorEq, Nat.reduceEqDiff, Nat.reduceAdd, Nat.reduceLT, Nat.reduceLeDiff, Nat.reduceSub, Int.reduceToNat, Int.reduceLE, Int.reduceLT, Int.reduceNeg, Int.reduceBEq, Int.reduceBNe, Nat.reduceMul, Int.reduceAdd, Int.reduceMul, Int.reduceSub, Int.reduceEq, Int.reduceNe]
  refine W_loop_nil 6 1 (by simp (config := { maxSteps := 400000 }) only [go_sem, ↓reduceIte, reduceCtorEq, Nat.reduceEqDiff, Nat.reduceAdd, Nat.reduceLT, Nat.reduceLeDiff, Nat.reduceSub, Int.reduceToNat, Int.reduceLE, Int.reduceLT, Int.reduceNeg, Int.reduceBEq, Int.reduceBNe, Nat.reduceMul, Int.reduceAdd, Int.reduceMul, Int.reduceSub, Int.reduceEq, Int.reduceNe]) ?_
  simp (config := { maxSteps := 400000 }) only [go_sem, ↓reduceIte, reduceCtorEq, Nat.reduceEqDiff, Nat.reduceAdd, Nat.reduceLT, Nat.reduceLeDiff, Nat.reduceSub, Int.reduceToNat, Int.reduceLE, Int.reduceLT, Int.reduceNeg, Int.reduceBEq, Int.reduceBNe, Nat.reduceMul, Int.reduceAdd, Int.reduceMul, Int.reduceSub, Int.reduceEq, Int.reduceNe]
  refine W_rangeA [2, 21, 22] r (by omega) (τ := List Int × Int) (fun done rest q => weighGo g 0 r = q.1 ++ weighGo g q.2 rest ∧ q.1.length = done.length ∧ 0 ≤ q.2 ∧ q.2 ≤ 20 * (done.length : Int)) (fun done q => [(23, .p (.int .i64 done.length)), (6, .slice 0 q.1.length 0 q.1.length), (8, .p (.int .i64 q.2))]) (fun _ q => [.row 1 (q.1.map fun x => .p (intPV x))]) ([], 0) ⟨rfl, rfl, by simp, by simp⟩ ?_ ?_ ?_
  · simp (config := { maxSteps := 400000 }) only [go_sem, ↓reduceIte, reduceCtorEq, Nat.reduceEqDiff, Nat.reduceAdd, Nat.reduceLT, Nat.reduceLeDiff, Nat.reduceSub, Int.reduceToNat, Int.reduceLE, Int.reduceLT, Int.reduceNeg, Int.reduceBEq, Int.reduceBNe, Nat.reduceMul, Int.reduceAdd, Int.reduceMul, Int.reduceSub, Int.reduceEq, Int.reduceNe] <;> simp
  · rintro ⟨acc, bf⟩ ⟨e2, e3, _⟩
    simp only [weighGo, List.append_nil] at e2
    simp (config := { maxSteps := 400000 }) only [go_sem, ↓reduceIte, reduceCtorEq, Nat.reduceEqDiff, Nat.reduceAdd, Nat.reduceLT, Nat.reduceLeDiff, Nat.reduceSub, Int.reduceToNat, Int.reduceLE, Int.reduceLT, Int.reduceNeg, Int.reduceBEq, Int.reduceBNe, Nat.reduceMul, Int.reduceAdd, Int.reduceMul, Int.reduceSub, Int.reduceEq, Int.reduceNe]
    rw [e2]
    first | exact .inl (.inl rfl) | exact .inl (.inr ⟨rfl, 1, rfl⟩) | exact .inr ⟨_, _, rfl, rfl, .inl rfl, .inl rfl, trivial⟩ | exact .inr ⟨_, _, rfl, rfl, .inr ⟨rfl, 1, rfl⟩, .inl rfl, trivial⟩ | exact ⟨1, rfl⟩ | (simp; done) | (refine .inr ⟨_, _, rfl, rfl, ?_⟩; repeat' (first | exact trivial | exact .inl rfl | exact .inr ⟨rfl, 1, rfl⟩ | refine ⟨?_, ?_⟩))
  · rintro done x rest ⟨acc, bf⟩ e1 ⟨e2, e3, e4, e5⟩ hx hlt hnx
    dsimp only at e2 e3 e4 e5
    have hxr := h2.rng x (by rw [e1]; simp)
    have hdl : done.length < 5 := by omega
    obtain ⟨w1, w2, w3, w4⟩ := weigh_nums hg' (b := bf) (by omega)
    obtain ⟨v1, v2, v3, v4⟩ := weigh_nums hg' (b := bf + x) (by omega)
    have u1 : IntKind.i64.wrap (bf + x) = bf + x := wrap_in (by omega) (by omega)
    have u2 : IntKind.i64.wrap (g * (bf + x) / 20 - g * bf / 20) = g * (bf + x) / 20 - g * bf / 20 := wrap_in (by omega) (by omega)
    have hrm : acc.length + 1 ≤ room := by simp [room]; omega
    simp (config := { maxSteps := 400000 }) only [hlt, hx, w1, w2, u1, v1, v2, u2, hrm, go_sem, ↓reduceIte, reduceCtorEq, Nat.reduceEqDiff, Nat.reduceAdd, Nat.reduceLT, Nat.reduceLeDiff, Nat.reduceSub, Int.reduceToNat, Int.reduceLE, Int.reduceLT, Int.reduceNeg, Int.reduceBEq, Int.reduceBNe, Nat.reduceMul, Int.reduceAdd, Int.reduceMul, Int.reduceSub, Int.reduceEq, Int.reduceNe]
    refine WQ_next e1 (acc ++ [g * (bf + x) / 20 - g * bf / 20], bf + x) ⟨by rw [e2]; simp [weighGo], by simp [e3], by dsimp only; omega, by simp; omega⟩ ?_
    simp (config := { maxSteps := 400000 }) only [hnx, List.length_append, List.map_append, go_sem, ↓reduceIte, reduceCtorEq, Nat.reduceEqDiff, Nat.reduceAdd, Nat.reduceLT, Nat.reduceLeDiff, Nat.reduceSub, Int.reduceToNat, Int.reduceLE, Int.reduceLT, Int.reduceNeg, Int.reduceBEq, Int.reduceBNe, Nat.reduceMul, Int.reduceAdd, Int.reduceMul, Int.reduceSub, Int.reduceEq, Int.reduceNe]
theorem cRefWeigh (l : List BdWax) (r : List Int) (g : Int) (b : Bool) : PCall Try.prog 25 [bdWaxes l, .slice 1 (r.map intPV) b, .int .i64 g] (weighPV (bdWeigh l r g)) := by
  refine pcall_of_wp_frzN draws (fn := Try.f25) (n := 51) (rs := [.tmp 6, .tmp 7]) (by kernel_rfl) rfl rfl rfl ok25 (Nat.le_of_ble_eq_true rfl) ?_
  simp (config := { maxSteps := 400000 }) only [go_sem, ↓reduceIte, reduceCtorEq, Nat.reduceEqDiff, Nat.reduceAdd, Nat.reduceLT, Nat.reduceLeDiff, Nat.reduceSub, Int.reduceToNat, Int.reduceLE, Int.reduceLT, Int.reduceNeg, Int.reduceBEq, Int.reduceBNe, Nat.reduceMul, Int.reduceAdd, Int.reduceMul, Int.reduceSub, Int.reduceEq, Int.reduceNe]
  (first | refine WF_pure (cRefBdAsked l r b) rfl ?_ | refine WDQ_pure (cRefBdAsked l r b) rfl ?_)
  simp (config := { maxSteps := 400000 }) only [go_sem, ↓reduceIte, reduceCtorEq, Nat.reduceEqDiff, Nat.reduceAdd, Nat.reduceLT, Nat.reduceLeDiff, Nat.reduceSub, Int.reduceToNat, Int.reduceLE, Int.reduceLT, Int.reduceNeg, Int.reduceBEq, Int.reduceBNe, Nat.reduceMul, Int.reduceAdd, Int.reduceMul, Int.reduceSub, Int.reduceEq, Int.reduceNe]
  cases he : (bdAsked l r == 0)
  · have he' : ¬ bdAsked l r = 0 := by simpa using he
    have hen : (bdAsked l r != 0) = true := by simp [bne, he]
    simp (config := { maxSteps := 400000 }) only [hen, weighPV, bdWeigh, if_neg he', go_sem, ↓reduceIte, reduceCtorEq, Nat.reduceEqDiff, Nat.reduceAdd, Nat.reduceLT, Nat.reduceLeDiff, Nat.reduceSub, Int.reduceToNat, Int.reduceLE, Int.reduceLT, Int.reduceNeg, Int.reduceBEq, Int.reduceBNe, Nat.reduceMul, Int.reduceAdd, Int.reduceMul, Int.reduceSub, Int.reduceEq, Int.reduceNe]
    first | exact .inl (.inl rfl) | exact .inl (.inr ⟨rfl, 1, rfl⟩) | exact .inr ⟨_, _, rfl, rfl, .inl rfl, .inl rfl, trivial⟩ | exact .inr ⟨_, _, rfl, rfl, .inr ⟨rfl, 1, rfl⟩, .inl rfl, trivial⟩ | exact ⟨1, rfl⟩ | (simp; done) | (refine .inr ⟨_, _, rfl, rfl, ?_⟩; repeat' (first | exact trivial | exact .inl rfl | exact .inr ⟨rfl, 1, rfl⟩ | refine ⟨?_, ?_⟩))
  have he' : bdAsked l r = 0 := by simpa using he
  have hen : (bdAsked l r != 0) = false := by simp [bne, he]
  obtain ⟨h1, h2⟩ := bdAsked_ok he'
  simp (config := { maxSteps := 400000 }) only [go_sem, ↓reduceIte, reduceCtorEq, Nat.reduceEqDiff, Nat.reduceAdd, Nat.reduceLT, Nat.reduceLeDiff, Nat.reduceSub, Int.reduceToNat, Int.reduceLE, Int.reduceLT, Int.reduceNeg, Int.reduceBEq, Int.reduceBNe, Nat.reduceMul, Int.reduceAdd, Int.reduceMul, Int.reduceSub, Int.reduceEq, Int.reduceNe]
  (first | refine WF_pure (cIn1 _ _ _) rfl ?_ | refine WDQ_pure (cIn1 _ _ _) rfl ?_)
  simp (config := { maxSteps := 400000 }) only [go_sem, ↓reduceIte, reduceCtorEq, Nat.reduceEqDiff, Nat.reduceAdd, Nat.reduceLT, Nat.reduceLeDiff, Nat.reduceSub, Int.reduceToNat, Int.reduceLE, Int.reduceLT, Int.reduceNeg, Int.reduceBEq, Int.reduceBNe, Nat.reduceMul, Int.reduceAdd, Int.reduceMul, Int.reduceSub, Int.reduceEq, Int.reduceNe]
  cases hg : gIn g 0 1000000
  · simp (config := { maxSteps := 400000 }) only [weighPV, bdWeigh, if_pos he', hg, go_sem, ↓reduceIte, reduceCtorEq, Nat.reduceEqDiff, Nat.reduceAdd, Nat.reduceLT, Nat.reduceLeDiff, Nat.reduceSub, Int.reduceToNat, Int.reduceLE, Int.reduceLT, Int.reduceNeg, Int.reduceBEq, Int.reduceBNe, Nat.reduceMul, Int.reduceAdd, Int.reduceMul, Int.reduceSub, Int.reduceEq, Int.reduceNe]
    first | exact .inl (.inl rfl) | exact .inl (.inr ⟨rfl, 1, rfl⟩) | exact .inr ⟨_, _, rfl, rfl, .inl rfl, .inl rfl, trivial⟩ | exact .inr ⟨_, _, rfl, rfl, .inr ⟨rfl, 1, rfl⟩, .inl rfl, trivial⟩ | exact ⟨1, rfl⟩ | (simp; done) | (refine .inr ⟨_, _, rfl, rfl, ?_⟩; repeat' (first | exact trivial | exact .inl rfl | exact .inr ⟨rfl, 1, rfl⟩ | refine ⟨?_, ?_⟩))
  have hg' : 0 ≤ g ∧ g ≤ 1000000 := by simp [gIn] at hg; omega
  have hspec : bdWeigh l r g = (weighGo g 0 r, 0) := by simp [bdWeigh, he', hg]
  have hl5 := h1.len
  have hrl := h2.len
  rw [hspec]
  simp (config := { maxSteps := 400000 }) only [hen, go_sem, ↓reduceIte, reduceCtorEq, Nat.reduceEqDiff, Nat.reduceAdd, Nat.reduceLT, Nat.reduceLeDiff, Nat.reduceSub, Int.reduceToNat, Int.reduceLE, Int.reduceLT, Int.reduceNeg, Int.reduceBEq, Int.reduceBNe, Nat.reduceMul, Int.reduceAdd, Int.reduceMul, Int.reduceSub, Int.reduceEq, Int.reduceNe]
  refine W_loop_nil 9 1 (by simp (config := { maxSteps := 400000 }) only [go_sem, ↓reduceIte, reduceCtorEq, Nat.reduceEqDiff, Nat.reduceAdd, Nat.reduceLT, Nat.reduceLeDiff, Nat.reduceSub, Int.reduceToNat, Int.reduceLE, Int.reduceLT, Int.reduceNeg, Int.reduceBEq, Int.reduceBNe, Nat.reduceMul, Int.reduceAdd, Int.reduceMul, Int.reduceSub, Int.reduceEq, Int.reduceNe]) ?_
  simp (config := { maxSteps := 400000 }) only [go_sem, ↓reduceIte, reduceCtorEq, Nat.reduceEqDiff, Nat.reduceAdd, Nat.reduceLT, Nat.reduceLeDiff, Nat.reduceSub, Int.reduceToNat, Int.reduceLE, Int.reduceLT, Int.reduceNeg, Int.reduceBEq, Int.reduceBNe, Nat.reduceMul, Int.reduceAdd, Int.reduceMul, Int.reduceSub, Int.reduceEq, Int.reduceNe]
  refine W_rangeA [1, 2] r (by omega) (τ := List Int × Int) (fun done rest q => weighGo g 0 r = q.1 ++ weighGo g q.2 rest ∧ q.1.length = done.length ∧ 0 ≤ q.2 ∧ q.2 ≤ 20 * (done.length : Int)) (fun done q => [(12, .p (.int .i64 done.length)), (9, .slice 0 q.1.length 0 q.1.length), (10, .p (.int .i64 q.2)), (11, .p (.int .i64 (g * q.2 / 20)))]) (fun _ q => [.row 1 (q.1.map fun x => .p (intPV x))]) ([], 0) ⟨rfl, rfl, by simp, by simp⟩ ?_ ?_ ?_
  · simp (config := { maxSteps := 400000 }) only [go_sem, ↓reduceIte, reduceCtorEq, Nat.reduceEqDiff, Nat.reduceAdd, Nat.reduceLT, Nat.reduceLeDiff, Nat.reduceSub, Int.reduceToNat, Int.reduceLE, Int.reduceLT, Int.reduceNeg, Int.reduceBEq, Int.reduceBNe, Nat.reduceMul, Int.reduceAdd, Int.reduceMul, Int.reduceSub, Int.reduceEq, Int.reduceNe] <;> simp
  · rintro ⟨acc, bf⟩ ⟨e2, e3, _⟩
    simp only [weighGo, List.append_nil] at e2
    simp (config := { maxSteps := 400000 }) only [go_sem, ↓reduceIte, reduceCtorEq, Nat.reduceEqDiff, Nat.reduceAdd, Nat.reduceLT, Nat.reduceLeDiff, Nat.reduceSub, Int.reduceToNat, Int.reduceLE, Int.reduceLT, Int.reduceNeg, Int.reduceBEq, Int.reduceBNe, Nat.reduceMul, Int.reduceAdd, Int.reduceMul, Int.reduceSub, Int.reduceEq, Int.reduceNe]
    rw [e2]
    first | exact .inl (.inl rfl) | exact .inl (.inr ⟨rfl, 1, rfl⟩) | exact .inr ⟨_, _, rfl, rfl, .inl rfl, .inl rfl, trivial⟩ | exact .inr ⟨_, _, rfl, rfl, .inr ⟨rfl, 1, rfl⟩, .inl rfl, trivial⟩ | exact ⟨1, rfl⟩ | (simp; done) | (refine .inr ⟨_, _, rfl, rfl, ?_⟩; repeat' (first | exact trivial | exact .inl rfl | exact .inr ⟨rfl, 1, rfl⟩ | refine ⟨?_, ?_⟩))
  · rintro done x rest ⟨acc, bf⟩ e1 ⟨e2, e3, e4, e5⟩ hx hlt hnx
    dsimp only at e2 e3 e4 e5
    have hxr := h2.rng x (by rw [e1]; simp)
    have hdl : done.length < 5 := by omega
    obtain ⟨w1, w2, w3, w4⟩ := weigh_nums hg' (b := bf) (by omega)
    obtain ⟨v1, v2, v3, v4⟩ := weigh_nums hg' (b := bf + x) (by omega)
    have u1 : IntKind.i64.wrap (bf + x) = bf + x := wrap_in (by omega) (by omega)
    have u2 : IntKind.i64.wrap (g * (bf + x) / 20 - g * bf / 20) = g * (bf + x) / 20 - g * bf / 20 := wrap_in (by omega) (by omega)
    have hrm : acc.length + 1 ≤ room := by simp [room]; omega
    simp (config := { maxSteps := 400000 }) only [hlt, hx, w1, w2, u1, v1, v2, u2, hrm, go_sem, ↓reduceIte, reduceCtorEq, Nat.reduceEqDiff, Nat.reduceAdd, Nat.reduceLT, Nat.reduceLeDiff, Nat.reduceSub, Int.reduceToNat, Int.reduceLE, Int.reduceLT, Int.reduceNeg, Int.reduceBEq, Int.reduceBNe, Nat.reduceMul, Int.reduceAdd, Int.reduceMul, Int.reduceSub, Int.reduceEq, Int.reduceNe]
    refine WQ_next e1 (acc ++ [g * (bf + x) / 20 - g * bf / 20], bf + x) ⟨by rw [e2]; simp [weighGo], by simp [e3], by dsimp only; omega, by simp; omega⟩ ?_
    simp (config := { maxSteps := 400000 }) only [hnx, List.length_append, List.map_append, go_sem, ↓reduceIte, reduceCtorEq, Nat.reduceEqDiff, Nat.reduceAdd, Nat.reduceLT, Nat.reduceLeDiff, Nat.reduceSub, Int.reduceToNat, Int.reduceLE, Int.reduceLT, Int.reduceNeg, Int.reduceBEq, Int.reduceBNe, Nat.reduceMul, Int.reduceAdd, Int.reduceMul, Int.reduceSub, Int.reduceEq, Int.reduceNe]
end Abs
end Go.Proofs.Ythekmbikolpmlaa
