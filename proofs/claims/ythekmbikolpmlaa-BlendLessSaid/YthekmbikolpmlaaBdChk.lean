/-
  CONTRACTS: blend.Check, in the program and in the reference: both come to 'bdCheck'.
-/
import Derived.Test.YthekmbikolpmlaaLibName
namespace Go.Proofs.Ythekmbikolpmlaa
namespace Abs
set_option linter.unusedSimpArgs false
set_option maxRecDepth 4000

/-! numbers out of a range -/
theorem cBdOut1 (lo hi n : Int) : PCall Try.prog 82 [.int .i64 n, .ptr 1 [.int .i64 lo] 0 0, .ptr 1 [.int .i64 hi] 0 0] (.bool (!gIn n lo hi)) := by
  refine pcall_of_wp draws (fn := Try.f82) (n := 13) (rs := [.tmp 4]) (by kernel_rfl) rfl rfl rfl ok82 (Nat.le_of_ble_eq_true rfl) ?_
  simp (config := { maxSteps := 400000 }) only [go_sem, ↓reduceIte, reduceCtorEq, Nat.reduceEqDiff, Nat.reduceAdd, Nat.reduceLT, Nat.reduceLeDiff, Nat.reduceSub, Int.reduceToNat, Int.reduceLE, Int.reduceLT, Int.reduceNeg, Int.reduceBEq, Int.reduceBNe, Nat.reduceMul, Int.reduceAdd, Int.reduceMul, Int.reduceSub, Int.reduceEq, Int.reduceNe]
  refine WB_split (fun hb => ?_) (fun hb => ?_) <;> simp (config := { maxSteps := 400000 }) only [hb, go_sem, ↓reduceIte, reduceCtorEq, Nat.reduceEqDiff, Nat.reduceAdd, Nat.reduceLT, Nat.reduceLeDiff, Nat.reduceSub, Int.reduceToNat, Int.reduceLE, Int.reduceLT, Int.reduceNeg, Int.reduceBEq, Int.reduceBNe, Nat.reduceMul, Int.reduceAdd, Int.reduceMul, Int.reduceSub, Int.reduceEq, Int.reduceNe] <;> simp_all [gIn]
  rw [← decide_not]; congr 1; simp
theorem cBdOut (lo hi : Int) (l : List Int) (b : Bool) (hl : l.length < 1000000000) : PCall Try.prog 48 [.int .i64 lo, .int .i64 hi, .slice 1 (l.map intPV) b] (.bool (l.any fun n => !gIn n lo hi)) := by
  refine pcall_of_wp draws (fn := Try.f48) (n := 10) (rs := [.tmp 6]) (by kernel_rfl) rfl rfl rfl ok48 (Nat.le_of_ble_eq_true rfl) ?_
  simp (config := { maxSteps := 400000 }) only [go_sem, ↓reduceIte, reduceCtorEq, Nat.reduceEqDiff, Nat.reduceAdd, Nat.reduceLT, Nat.reduceLeDiff, Nat.reduceSub, Int.reduceToNat, Int.reduceLE, Int.reduceLT, Int.reduceNeg, Int.reduceBEq, Int.reduceBNe, Nat.reduceMul, Int.reduceAdd, Int.reduceMul, Int.reduceSub, Int.reduceEq, Int.reduceNe]
  refine WF_frz (cContainsFunc0 (fv := .func (.func 82) [] [.ptr 1 [.int .i64 lo] 0 0, .ptr 1 [.int .i64 hi] 0 0]) l (fun n => !gIn n lo hi) b 1 rfl hl fun n _ => ⟨_, _, _, rfl, cBdOut1 lo hi n⟩) ?_ (.bool _) ?_
  · simp (config := { maxSteps := 400000 }) only [go_sem, ↓reduceIte, reduceCtorEq, Nat.reduceEqDiff, Nat.reduceAdd, Nat.reduceLT, Nat.reduceLeDiff, Nat.reduceSub, Int.reduceToNat, Int.reduceLE, Int.reduceLT, Int.reduceNeg, Int.reduceBEq, Int.reduceBNe, Nat.reduceMul, Int.reduceAdd, Int.reduceMul, Int.reduceSub, Int.reduceEq, Int.reduceNe]
  · simp (config := { maxSteps := 400000 }) only [go_sem, ↓reduceIte, reduceCtorEq, Nat.reduceEqDiff, Nat.reduceAdd, Nat.reduceLT, Nat.reduceLeDiff, Nat.reduceSub, Int.reduceToNat, Int.reduceLE, Int.reduceLT, Int.reduceNeg, Int.reduceBEq, Int.reduceBNe, Nat.reduceMul, Int.reduceAdd, Int.reduceMul, Int.reduceSub, Int.reduceEq, Int.reduceNe]

/-! curves -/
def ptErr (last : Int) : List BdPoint → Int
  | [] => 0
  | p :: r => if (gIn p.parts 0 20 && gIn p.add (-300) 300) = true then (if p.parts ≤ last then 2 else ptErr p.parts r) else 7
def curveErr (c : List BdPoint) : Int := if 6 < c.length then 3 else ptErr (-1) c
theorem cBdCurve (c : List BdPoint) (b : Bool) (n : Int) : PCall Try.prog 52 [.agg [.slice 2 (c.map BdPoint.pv) b, .int .i64 n]] (.int .i64 (curveErr c)) := by
  refine pcall_of_wp draws (fn := Try.f52) (n := 36) (rs := [.tmp 2]) (by kernel_rfl) rfl rfl rfl ok52 (Nat.le_of_ble_eq_true rfl) ?_
  simp (config := { maxSteps := 400000 }) only [go_sem, ↓reduceIte, reduceCtorEq, Nat.reduceEqDiff, Nat.reduceAdd, Nat.reduceLT, Nat.reduceLeDiff, Nat.reduceSub, Int.reduceToNat, Int.reduceLE, Int.reduceLT, Int.reduceNeg, Int.reduceBEq, Int.reduceBNe, Nat.reduceMul, Int.reduceAdd, Int.reduceMul, Int.reduceSub, Int.reduceEq, Int.reduceNe]
  refine WB_split (fun hb => ?_) (fun hb => ?_) <;> simp (config := { maxSteps := 400000 }) only [hb, go_sem, ↓reduceIte, reduceCtorEq, Nat.reduceEqDiff, Nat.reduceAdd, Nat.reduceLT, Nat.reduceLeDiff, Nat.reduceSub, Int.reduceToNat, Int.reduceLE, Int.reduceLT, Int.reduceNeg, Int.reduceBEq, Int.reduceBNe, Nat.reduceMul, Int.reduceAdd, Int.reduceMul, Int.reduceSub, Int.reduceEq, Int.reduceNe]
  · have : 6 < c.length := by simp at hb; omega
    simp [curveErr, this]
  · have h6 : ¬ 6 < c.length := by simp at hb; omega
    rw [show curveErr c = ptErr (-1) c by simp [curveErr, h6]]
    refine W_rangeA [11, 12] c (by omega) (τ := Int) (fun done rest last => ptErr (-1) c = ptErr last rest) (fun done last => [(13, .p (.int .i64 done.length)), (3, .p (.int .i64 last))]) (fun _ _ => [.row 2 [.p (.agg [.slice 2 (c.map BdPoint.pv) b, .int .i64 n])]]) (-1) rfl ?_ ?_ ?_
    · simp (config := { maxSteps := 400000 }) only [go_sem, ↓reduceIte, reduceCtorEq, Nat.reduceEqDiff, Nat.reduceAdd, Nat.reduceLT, Nat.reduceLeDiff, Nat.reduceSub, Int.reduceToNat, Int.reduceLE, Int.reduceLT, Int.reduceNeg, Int.reduceBEq, Int.reduceBNe, Nat.reduceMul, Int.reduceAdd, Int.reduceMul, Int.reduceSub, Int.reduceEq, Int.reduceNe] <;> simp
    · intro last e2
      simp (config := { maxSteps := 400000 }) only [go_sem, ↓reduceIte, reduceCtorEq, Nat.reduceEqDiff, Nat.reduceAdd, Nat.reduceLT, Nat.reduceLeDiff, Nat.reduceSub, Int.reduceToNat, Int.reduceLE, Int.reduceLT, Int.reduceNeg, Int.reduceBEq, Int.reduceBNe, Nat.reduceMul, Int.reduceAdd, Int.reduceMul, Int.reduceSub, Int.reduceEq, Int.reduceNe]
      rw [e2]; rfl
    · intro done x r last e1 e2 hx hlt hnx
      simp (config := { maxSteps := 400000 }) only [hlt, hx, go_sem, ↓reduceIte, reduceCtorEq, Nat.reduceEqDiff, Nat.reduceAdd, Nat.reduceLT, Nat.reduceLeDiff, Nat.reduceSub, Int.reduceToNat, Int.reduceLE, Int.reduceLT, Int.reduceNeg, Int.reduceBEq, Int.reduceBNe, Nat.reduceMul, Int.reduceAdd, Int.reduceMul, Int.reduceSub, Int.reduceEq, Int.reduceNe]
      refine WF_pure (cBdOut 0 20 [_] true (by simp)) rfl ?_
      simp (config := { maxSteps := 400000 }) only [List.any_cons, List.any_nil, Bool.or_false, go_sem, ↓reduceIte, reduceCtorEq, Nat.reduceEqDiff, Nat.reduceAdd, Nat.reduceLT, Nat.reduceLeDiff, Nat.reduceSub, Int.reduceToNat, Int.reduceLE, Int.reduceLT, Int.reduceNeg, Int.reduceBEq, Int.reduceBNe, Nat.reduceMul, Int.reduceAdd, Int.reduceMul, Int.reduceSub, Int.reduceEq, Int.reduceNe]
      cases h1 : gIn x.parts 0 20
      · simp (config := { maxSteps := 400000 }) only [go_sem, ↓reduceIte, reduceCtorEq, Nat.reduceEqDiff, Nat.reduceAdd, Nat.reduceLT, Nat.reduceLeDiff, Nat.reduceSub, Int.reduceToNat, Int.reduceLE, Int.reduceLT, Int.reduceNeg, Int.reduceBEq, Int.reduceBNe, Nat.reduceMul, Int.reduceAdd, Int.reduceMul, Int.reduceSub, Int.reduceEq, Int.reduceNe]
        rw [e2, ptErr, h1]; rfl
      simp (config := { maxSteps := 400000 }) only [go_sem, ↓reduceIte, reduceCtorEq, Nat.reduceEqDiff, Nat.reduceAdd, Nat.reduceLT, Nat.reduceLeDiff, Nat.reduceSub, Int.reduceToNat, Int.reduceLE, Int.reduceLT, Int.reduceNeg, Int.reduceBEq, Int.reduceBNe, Nat.reduceMul, Int.reduceAdd, Int.reduceMul, Int.reduceSub, Int.reduceEq, Int.reduceNe]
      refine WF_pure (cBdOut (-300) 300 [_] true (by simp)) rfl ?_
      simp (config := { maxSteps := 400000 }) only [List.any_cons, List.any_nil, Bool.or_false, go_sem, ↓reduceIte, reduceCtorEq, Nat.reduceEqDiff, Nat.reduceAdd, Nat.reduceLT, Nat.reduceLeDiff, Nat.reduceSub, Int.reduceToNat, Int.reduceLE, Int.reduceLT, Int.reduceNeg, Int.reduceBEq, Int.reduceBNe, Nat.reduceMul, Int.reduceAdd, Int.reduceMul, Int.reduceSub, Int.reduceEq, Int.reduceNe]
      cases h2 : gIn x.add (-300) 300
      · simp (config := { maxSteps := 400000 }) only [go_sem, ↓reduceIte, reduceCtorEq, Nat.reduceEqDiff, Nat.reduceAdd, Nat.reduceLT, Nat.reduceLeDiff, Nat.reduceSub, Int.reduceToNat, Int.reduceLE, Int.reduceLT, Int.reduceNeg, Int.reduceBEq, Int.reduceBNe, Nat.reduceMul, Int.reduceAdd, Int.reduceMul, Int.reduceSub, Int.reduceEq, Int.reduceNe]
        rw [e2, ptErr, h1, h2]; rfl
      simp (config := { maxSteps := 400000 }) only [go_sem, ↓reduceIte, reduceCtorEq, Nat.reduceEqDiff, Nat.reduceAdd, Nat.reduceLT, Nat.reduceLeDiff, Nat.reduceSub, Int.reduceToNat, Int.reduceLE, Int.reduceLT, Int.reduceNeg, Int.reduceBEq, Int.reduceBNe, Nat.reduceMul, Int.reduceAdd, Int.reduceMul, Int.reduceSub, Int.reduceEq, Int.reduceNe]
      refine WB_split (fun hb => ?_) (fun hb => ?_) <;> simp (config := { maxSteps := 400000 }) only [hb, go_sem, ↓reduceIte, reduceCtorEq, Nat.reduceEqDiff, Nat.reduceAdd, Nat.reduceLT, Nat.reduceLeDiff, Nat.reduceSub, Int.reduceToNat, Int.reduceLE, Int.reduceLT, Int.reduceNeg, Int.reduceBEq, Int.reduceBNe, Nat.reduceMul, Int.reduceAdd, Int.reduceMul, Int.reduceSub, Int.reduceEq, Int.reduceNe]
      · rw [e2, ptErr, h1, h2, Bool.and_self, if_pos rfl, if_pos (by simpa using hb)]
      · refine WQ_next e1 x.parts (by rw [e2, ptErr, h1, h2, Bool.and_self, if_pos rfl, if_neg (by simpa using hb)]) ?_
        simp (config := { maxSteps := 400000 }) only [hnx, go_sem, ↓reduceIte, reduceCtorEq, Nat.reduceEqDiff, Nat.reduceAdd, Nat.reduceLT, Nat.reduceLeDiff, Nat.reduceSub, Int.reduceToNat, Int.reduceLE, Int.reduceLT, Int.reduceNeg, Int.reduceBEq, Int.reduceBNe, Nat.reduceMul, Int.reduceAdd, Int.reduceMul, Int.reduceSub, Int.reduceEq, Int.reduceNe]
def lastPt (done : List BdPoint) : Int := match done.getLast? with | some p => p.parts | none => -1
theorem cRefCurve (c : List BdPoint) (b : Bool) : PCall Try.prog 56 [.slice 2 (c.map BdPoint.pv) b] (.int .i64 (curveErr c)) := by
  refine pcall_of_wp draws (fn := Try.f56) (n := 45) (rs := [.tmp 2]) (by kernel_rfl) rfl rfl rfl ok56 (Nat.le_of_ble_eq_true rfl) ?_
  simp (config := { maxSteps := 400000 }) only [go_sem, ↓reduceIte, reduceCtorEq, Nat.reduceEqDiff, Nat.reduceAdd, Nat.reduceLT, Nat.reduceLeDiff, Nat.reduceSub, Int.reduceToNat, Int.reduceLE, Int.reduceLT, Int.reduceNeg, Int.reduceBEq, Int.reduceBNe, Nat.reduceMul, Int.reduceAdd, Int.reduceMul, Int.reduceSub, Int.reduceEq, Int.reduceNe]
  refine WB_split (fun hb => ?_) (fun hb => ?_) <;> simp (config := { maxSteps := 400000 }) only [hb, go_sem, ↓reduceIte, reduceCtorEq, Nat.reduceEqDiff, Nat.reduceAdd, Nat.reduceLT, Nat.reduceLeDiff, Nat.reduceSub, Int.reduceToNat, Int.reduceLE, Int.reduceLT, Int.reduceNeg, Int.reduceBEq, Int.reduceBNe, Nat.reduceMul, Int.reduceAdd, Int.reduceMul, Int.reduceSub, Int.reduceEq, Int.reduceNe]
  · have : 6 < c.length := by simp at hb; omega
    simp [curveErr, this]
  · have h6 : ¬ 6 < c.length := by simp at hb; omega
    rw [show curveErr c = ptErr (-1) c by simp [curveErr, h6]]
    refine W_rangeH [0] c (by omega) (τ := Unit) (fun done rest _ => ptErr (-1) c = ptErr (lastPt done) rest) (fun done _ => [(3, .p (.int .i64 done.length))]) () rfl ?_ ?_ ?_
    · simp (config := { maxSteps := 400000 }) only [go_sem, ↓reduceIte, reduceCtorEq, Nat.reduceEqDiff, Nat.reduceAdd, Nat.reduceLT, Nat.reduceLeDiff, Nat.reduceSub, Int.reduceToNat, Int.reduceLE, Int.reduceLT, Int.reduceNeg, Int.reduceBEq, Int.reduceBNe, Nat.reduceMul, Int.reduceAdd, Int.reduceMul, Int.reduceSub, Int.reduceEq, Int.reduceNe] <;> simp
    · intro _ e2
      simp (config := { maxSteps := 400000 }) only [go_sem, ↓reduceIte, reduceCtorEq, Nat.reduceEqDiff, Nat.reduceAdd, Nat.reduceLT, Nat.reduceLeDiff, Nat.reduceSub, Int.reduceToNat, Int.reduceLE, Int.reduceLT, Int.reduceNeg, Int.reduceBEq, Int.reduceBNe, Nat.reduceMul, Int.reduceAdd, Int.reduceMul, Int.reduceSub, Int.reduceEq, Int.reduceNe]
      rw [e2]; rfl
    · intro done x r _ e1 e2 hx hlt hnx
      simp (config := { maxSteps := 400000 }) only [hlt, hx, go_sem, ↓reduceIte, reduceCtorEq, Nat.reduceEqDiff, Nat.reduceAdd, Nat.reduceLT, Nat.reduceLeDiff, Nat.reduceSub, Int.reduceToNat, Int.reduceLE, Int.reduceLT, Int.reduceNeg, Int.reduceBEq, Int.reduceBNe, Nat.reduceMul, Int.reduceAdd, Int.reduceMul, Int.reduceSub, Int.reduceEq, Int.reduceNe]
      refine WF_pure (cIn1 _ _ _) rfl ?_
      simp (config := { maxSteps := 400000 }) only [go_sem, ↓reduceIte, reduceCtorEq, Nat.reduceEqDiff, Nat.reduceAdd, Nat.reduceLT, Nat.reduceLeDiff, Nat.reduceSub, Int.reduceToNat, Int.reduceLE, Int.reduceLT, Int.reduceNeg, Int.reduceBEq, Int.reduceBNe, Nat.reduceMul, Int.reduceAdd, Int.reduceMul, Int.reduceSub, Int.reduceEq, Int.reduceNe]
      cases h1 : gIn x.parts 0 20
      · simp (config := { maxSteps := 400000 }) only [go_sem, ↓reduceIte, reduceCtorEq, Nat.reduceEqDiff, Nat.reduceAdd, Nat.reduceLT, Nat.reduceLeDiff, Nat.reduceSub, Int.reduceToNat, Int.reduceLE, Int.reduceLT, Int.reduceNeg, Int.reduceBEq, Int.reduceBNe, Nat.reduceMul, Int.reduceAdd, Int.reduceMul, Int.reduceSub, Int.reduceEq, Int.reduceNe]
        rw [e2, ptErr, h1]; rfl
      simp (config := { maxSteps := 400000 }) only [hx, hlt, go_sem, ↓reduceIte, reduceCtorEq, Nat.reduceEqDiff, Nat.reduceAdd, Nat.reduceLT, Nat.reduceLeDiff, Nat.reduceSub, Int.reduceToNat, Int.reduceLE, Int.reduceLT, Int.reduceNeg, Int.reduceBEq, Int.reduceBNe, Nat.reduceMul, Int.reduceAdd, Int.reduceMul, Int.reduceSub, Int.reduceEq, Int.reduceNe]
      refine WF_pure (cIn1 _ _ _) rfl ?_
      simp (config := { maxSteps := 400000 }) only [go_sem, ↓reduceIte, reduceCtorEq, Nat.reduceEqDiff, Nat.reduceAdd, Nat.reduceLT, Nat.reduceLeDiff, Nat.reduceSub, Int.reduceToNat, Int.reduceLE, Int.reduceLT, Int.reduceNeg, Int.reduceBEq, Int.reduceBNe, Nat.reduceMul, Int.reduceAdd, Int.reduceMul, Int.reduceSub, Int.reduceEq, Int.reduceNe]
      cases h2 : gIn x.add (-300) 300
      · simp (config := { maxSteps := 400000 }) only [go_sem, ↓reduceIte, reduceCtorEq, Nat.reduceEqDiff, Nat.reduceAdd, Nat.reduceLT, Nat.reduceLeDiff, Nat.reduceSub, Int.reduceToNat, Int.reduceLE, Int.reduceLT, Int.reduceNeg, Int.reduceBEq, Int.reduceBNe, Nat.reduceMul, Int.reduceAdd, Int.reduceMul, Int.reduceSub, Int.reduceEq, Int.reduceNe]
        rw [e2, ptErr, h1, h2]; rfl
      have hp0 : 0 ≤ x.parts := by simp [gIn] at h1; omega
      rcases List.eq_nil_or_concat done with rfl | ⟨pre, d, hpd⟩
      · simp (config := { maxSteps := 400000 }) only [hx, go_sem, ↓reduceIte, reduceCtorEq, Nat.reduceEqDiff, Nat.reduceAdd, Nat.reduceLT, Nat.reduceLeDiff, Nat.reduceSub, Int.reduceToNat, Int.reduceLE, Int.reduceLT, Int.reduceNeg, Int.reduceBEq, Int.reduceBNe, Nat.reduceMul, Int.reduceAdd, Int.reduceMul, Int.reduceSub, Int.reduceEq, Int.reduceNe]
        refine WQ_next e1 () (by rw [e2, ptErr, h1, h2, Bool.and_self, if_pos rfl, if_neg (by simp [lastPt]; omega)]; rfl) ?_
        simp (config := { maxSteps := 400000 }) only [hnx, go_sem, ↓reduceIte, reduceCtorEq, Nat.reduceEqDiff, Nat.reduceAdd, Nat.reduceLT, Nat.reduceLeDiff, Nat.reduceSub, Int.reduceToNat, Int.reduceLE, Int.reduceLT, Int.reduceNeg, Int.reduceBEq, Int.reduceBNe, Nat.reduceMul, Int.reduceAdd, Int.reduceMul, Int.reduceSub, Int.reduceEq, Int.reduceNe]
      · rw [List.concat_eq_append] at hpd
        subst hpd
        have hp : decide ((0 : Int) < (((pre ++ [d]).length : Nat) : Int)) = true := by simp <;> omega
        have hw1 : IntKind.i64.wrap ((((pre ++ [d]).length : Nat) : Int) - 1) = ((pre.length : Nat) : Int) := by
          rw [wrap_small (by simp <;> omega) (by simp [room] at hlt ⊢; omega)]; simp
        have hd : c[pre.length]? = some d := by rw [e1]; simp
        have hlt2 : ((pre.length : Nat) : Int) < (c.length : Int) := by simp at hlt; omega
        have hl : lastPt (pre ++ [d]) = d.parts := by simp [lastPt]
        rw [hl] at e2
        simp (config := { maxSteps := 400000 }) only [hp, hx, hw1, hd, hlt, hlt2, go_sem, ↓reduceIte, reduceCtorEq, Nat.reduceEqDiff, Nat.reduceAdd, Nat.reduceLT, Nat.reduceLeDiff, Nat.reduceSub, Int.reduceToNat, Int.reduceLE, Int.reduceLT, Int.reduceNeg, Int.reduceBEq, Int.reduceBNe, Nat.reduceMul, Int.reduceAdd, Int.reduceMul, Int.reduceSub, Int.reduceEq, Int.reduceNe]
        refine WB_split (fun hb => ?_) (fun hb => ?_) <;> simp (config := { maxSteps := 400000 }) only [hb, go_sem, ↓reduceIte, reduceCtorEq, Nat.reduceEqDiff, Nat.reduceAdd, Nat.reduceLT, Nat.reduceLeDiff, Nat.reduceSub, Int.reduceToNat, Int.reduceLE, Int.reduceLT, Int.reduceNeg, Int.reduceBEq, Int.reduceBNe, Nat.reduceMul, Int.reduceAdd, Int.reduceMul, Int.reduceSub, Int.reduceEq, Int.reduceNe]
        · rw [e2, ptErr, h1, h2, Bool.and_self, if_pos rfl, if_pos (by simpa using hb)]
        · refine WQ_next e1 () (by rw [e2, ptErr, h1, h2, Bool.and_self, if_pos rfl, if_neg (by simpa using hb)]; simp [lastPt]) ?_
          simp (config := { maxSteps := 400000 }) only [hnx, go_sem, ↓reduceIte, reduceCtorEq, Nat.reduceEqDiff, Nat.reduceAdd, Nat.reduceLT, Nat.reduceLeDiff, Nat.reduceSub, Int.reduceToNat, Int.reduceLE, Int.reduceLT, Int.reduceNeg, Int.reduceBEq, Int.reduceBNe, Nat.reduceMul, Int.reduceAdd, Int.reduceMul, Int.reduceSub, Int.reduceEq, Int.reduceNe]

/-! waxes -/
def inS (s : Span) (a b : Int) : Bool := gIn s.lo a b && gIn s.hi a b
def turnedS (s : Span) : Bool := decide (s.hi < s.lo)
def bdWaxErr (before : List ByteArray) (x : BdWax) : Int :=
  if namedErr before x.name = 0 then
    if (gIn x.price 0 100000 && (inS x.melt 0 2000 && inS x.shrink 0 1000)) = true then
      if (turnedS x.melt || turnedS x.shrink) = true then 2 else curveErr x.curve
    else 7
  else namedErr before x.name
def bdTail : Option (Int × Int) → Int × Int × Int
  | none => (0, 0, 0)
  | some (i, e) => (2, i, e)
def bdCheck (l : List BdWax) : Int × Int × Int :=
  if gIn l.length 1 5 = true then bdTail (firstErr bdWaxErr (·.name) l []) else (1, 0, 3)

theorem cBdCheck1 (x y : BdWax) : PCall Try.prog 51 [y.pv, .ptr 7 [x.pv] 0 0] (.bool (y.name == x.name)) := by
  refine pcall_of_wp draws (fn := Try.f51) (n := 9) (rs := [.tmp 3]) (by kernel_rfl) rfl rfl rfl ok51 (Nat.le_of_ble_eq_true rfl) ?_
  simp (config := { maxSteps := 400000 }) only [go_sem, ↓reduceIte, reduceCtorEq, Nat.reduceEqDiff, Nat.reduceAdd, Nat.reduceLT, Nat.reduceLeDiff, Nat.reduceSub, Int.reduceToNat, Int.reduceLE, Int.reduceLT, Int.reduceNeg, Int.reduceBEq, Int.reduceBNe, Nat.reduceMul, Int.reduceAdd, Int.reduceMul, Int.reduceSub, Int.reduceEq, Int.reduceNe]
/-- what a wax's error is made of -/
theorem bdWaxErr_eq {before : List ByteArray} {x : BdWax} {a b c : Bool} (h1 : nameOk x.name = a) (h2 : before.any (fun t => t == x.name) = b) (h3 : (gIn x.price 0 100000 && (inS x.melt 0 2000 && inS x.shrink 0 1000)) = c) :
    bdWaxErr before x = if a = true then (if b = true then 5 else if c = true then (if (turnedS x.melt || turnedS x.shrink) = true then 2 else curveErr x.curve) else 7) else 6 := by
  unfold bdWaxErr namedErr
  rw [h1, h2, h3]
  cases a <;> cases b <;> rfl
set_option maxHeartbeats 1000000 in
theorem cBdCheck (l : List BdWax) : PCall Try.prog 15 [bdWaxes l] (triple (bdCheck l)) := by
  refine pcall_of_wp draws (fn := Try.f15) (n := 80) (rs := [.tmp 2, .tmp 3, .tmp 4]) (by kernel_rfl) rfl rfl rfl ok15 (Nat.le_of_ble_eq_true rfl) ?_
  simp (config := { maxSteps := 400000 }) only [go_sem, ↓reduceIte, reduceCtorEq, Nat.reduceEqDiff, Nat.reduceAdd, Nat.reduceLT, Nat.reduceLeDiff, Nat.reduceSub, Int.reduceToNat, Int.reduceLE, Int.reduceLT, Int.reduceNeg, Int.reduceBEq, Int.reduceBNe, Nat.reduceMul, Int.reduceAdd, Int.reduceMul, Int.reduceSub, Int.reduceEq, Int.reduceNe]
  refine WF_pure (cBdOut 1 5 [_] true (by simp)) rfl ?_
  simp (config := { maxSteps := 400000 }) only [List.any_cons, List.any_nil, Bool.or_false, go_sem, ↓reduceIte, reduceCtorEq, Nat.reduceEqDiff, Nat.reduceAdd, Nat.reduceLT, Nat.reduceLeDiff, Nat.reduceSub, Int.reduceToNat, Int.reduceLE, Int.reduceLT, Int.reduceNeg, Int.reduceBEq, Int.reduceBNe, Nat.reduceMul, Int.reduceAdd, Int.reduceMul, Int.reduceSub, Int.reduceEq, Int.reduceNe]
  cases h1 : gIn l.length 1 5
  · simp (config := { maxSteps := 400000 }) only [triple, bdCheck, h1, go_sem, ↓reduceIte, reduceCtorEq, Nat.reduceEqDiff, Nat.reduceAdd, Nat.reduceLT, Nat.reduceLeDiff, Nat.reduceSub, Int.reduceToNat, Int.reduceLE, Int.reduceLT, Int.reduceNeg, Int.reduceBEq, Int.reduceBNe, Nat.reduceMul, Int.reduceAdd, Int.reduceMul, Int.reduceSub, Int.reduceEq, Int.reduceNe]
  have hl : l.length ≤ 5 := by simp [gIn] at h1; omega
  have hspec : bdCheck l = bdTail (firstErr bdWaxErr (·.name) l []) := by simp [bdCheck, h1]
  rw [hspec]
  simp (config := { maxSteps := 400000 }) only [go_sem, ↓reduceIte, reduceCtorEq, Nat.reduceEqDiff, Nat.reduceAdd, Nat.reduceLT, Nat.reduceLeDiff, Nat.reduceSub, Int.reduceToNat, Int.reduceLE, Int.reduceLT, Int.reduceNeg, Int.reduceBEq, Int.reduceBNe, Nat.reduceMul, Int.reduceAdd, Int.reduceMul, Int.reduceSub, Int.reduceEq, Int.reduceNe]
  refine W_rangeH [0, 11, 12] l (by omega) (τ := Unit) (fun done rest _ => firstErr bdWaxErr (·.name) l [] = firstErr bdWaxErr (·.name) rest (done.map (·.name))) (fun done _ => [(13, .p (.int .i64 done.length)), (4, .p (.int .i64 0))]) () rfl ?_ ?_ ?_
  · simp (config := { maxSteps := 400000 }) only [go_sem, ↓reduceIte, reduceCtorEq, Nat.reduceEqDiff, Nat.reduceAdd, Nat.reduceLT, Nat.reduceLeDiff, Nat.reduceSub, Int.reduceToNat, Int.reduceLE, Int.reduceLT, Int.reduceNeg, Int.reduceBEq, Int.reduceBNe, Nat.reduceMul, Int.reduceAdd, Int.reduceMul, Int.reduceSub, Int.reduceEq, Int.reduceNe] <;> simp
  · intro _ e2
    simp (config := { maxSteps := 400000 }) only [go_sem, ↓reduceIte, reduceCtorEq, Nat.reduceEqDiff, Nat.reduceAdd, Nat.reduceLT, Nat.reduceLeDiff, Nat.reduceSub, Int.reduceToNat, Int.reduceLE, Int.reduceLT, Int.reduceNeg, Int.reduceBEq, Int.reduceBNe, Nat.reduceMul, Int.reduceAdd, Int.reduceMul, Int.reduceSub, Int.reduceEq, Int.reduceNe]
    rw [e2]; rfl
  · intro done x r _ e1 e2 hx hlt hnx
    have hle : ((done.length : Nat) : Int) ≤ (l.length : Int) := by omega
    have htk : (l.map BdWax.pv).take done.length = done.map BdWax.pv := by
      rw [e1, List.map_append, List.take_left' (by simp)]
    have hln : (done.length == l.length) = false := by simp; omega
    have hE : firstErr bdWaxErr (·.name) l [] = if bdWaxErr (done.map (·.name)) x = 0 then firstErr bdWaxErr (·.name) r ((done ++ [x]).map (·.name)) else some ((done.length : Int), bdWaxErr (done.map (·.name)) x) := by
      rw [e2, firstErr]; simp
    have fin : ∀ e, bdWaxErr (done.map (·.name)) x = e → e ≠ 0 → bdTail (firstErr bdWaxErr (·.name) l []) = (2, (done.length : Int), e) := by
      intro e he hne
      rw [hE, he, if_neg hne]; rfl
    simp (config := { maxSteps := 400000 }) only [hlt, hx, go_sem, ↓reduceIte, reduceCtorEq, Nat.reduceEqDiff, Nat.reduceAdd, Nat.reduceLT, Nat.reduceLeDiff, Nat.reduceSub, Int.reduceToNat, Int.reduceLE, Int.reduceLT, Int.reduceNeg, Int.reduceBEq, Int.reduceBNe, Nat.reduceMul, Int.reduceAdd, Int.reduceMul, Int.reduceSub, Int.reduceEq, Int.reduceNe]
    refine WF_pure (cWaxName x.name) rfl ?_
    simp (config := { maxSteps := 400000 }) only [go_sem, ↓reduceIte, reduceCtorEq, Nat.reduceEqDiff, Nat.reduceAdd, Nat.reduceLT, Nat.reduceLeDiff, Nat.reduceSub, Int.reduceToNat, Int.reduceLE, Int.reduceLT, Int.reduceNeg, Int.reduceBEq, Int.reduceBNe, Nat.reduceMul, Int.reduceAdd, Int.reduceMul, Int.reduceSub, Int.reduceEq, Int.reduceNe]
    cases h2 : nameOk x.name
    · simp (config := { maxSteps := 400000 }) only [triple, fin 6 (by rw [bdWaxErr_eq h2 rfl rfl]; rfl) (by decide), go_sem, ↓reduceIte, reduceCtorEq, Nat.reduceEqDiff, Nat.reduceAdd, Nat.reduceLT, Nat.reduceLeDiff, Nat.reduceSub, Int.reduceToNat, Int.reduceLE, Int.reduceLT, Int.reduceNeg, Int.reduceBEq, Int.reduceBNe, Nat.reduceMul, Int.reduceAdd, Int.reduceMul, Int.reduceSub, Int.reduceEq, Int.reduceNe]
    simp (config := { maxSteps := 400000 }) only [hle, Option.getD_none, Option.getD_some, htk, hln, go_sem, ↓reduceIte, reduceCtorEq, Nat.reduceEqDiff, Nat.reduceAdd, Nat.reduceLT, Nat.reduceLeDiff, Nat.reduceSub, Int.reduceToNat, Int.reduceLE, Int.reduceLT, Int.reduceNeg, Int.reduceBEq, Int.reduceBNe, Nat.reduceMul, Int.reduceAdd, Int.reduceMul, Int.reduceSub, Int.reduceEq, Int.reduceNe]
    refine WF_frz (cContainsFunc2 (fv := .func (.func 51) [] [.ptr 7 [x.pv] 0 0]) done (fun y => y.name == x.name) false 7 rfl (by omega) fun y _ => ⟨_, _, _, rfl, cBdCheck1 x y⟩) ?_ (.bool _) ?_
    · simp (config := { maxSteps := 400000 }) only [go_sem, ↓reduceIte, reduceCtorEq, Nat.reduceEqDiff, Nat.reduceAdd, Nat.reduceLT, Nat.reduceLeDiff, Nat.reduceSub, Int.reduceToNat, Int.reduceLE, Int.reduceLT, Int.reduceNeg, Int.reduceBEq, Int.reduceBNe, Nat.reduceMul, Int.reduceAdd, Int.reduceMul, Int.reduceSub, Int.reduceEq, Int.reduceNe]
    simp (config := { maxSteps := 400000 }) only [go_sem, ↓reduceIte, reduceCtorEq, Nat.reduceEqDiff, Nat.reduceAdd, Nat.reduceLT, Nat.reduceLeDiff, Nat.reduceSub, Int.reduceToNat, Int.reduceLE, Int.reduceLT, Int.reduceNeg, Int.reduceBEq, Int.reduceBNe, Nat.reduceMul, Int.reduceAdd, Int.reduceMul, Int.reduceSub, Int.reduceEq, Int.reduceNe]
    have hany : (done.map (·.name)).any (fun t => t == x.name) = done.any (fun y => y.name == x.name) := by simp only [List.any_map, Function.comp_def]
    cases h3 : done.any (fun y => y.name == x.name)
    rotate_left
    · simp (config := { maxSteps := 400000 }) only [triple, fin 5 (by rw [bdWaxErr_eq h2 (hany.trans h3) rfl]; rfl) (by decide), go_sem, ↓reduceIte, reduceCtorEq, Nat.reduceEqDiff, Nat.reduceAdd, Nat.reduceLT, Nat.reduceLeDiff, Nat.reduceSub, Int.reduceToNat, Int.reduceLE, Int.reduceLT, Int.reduceNeg, Int.reduceBEq, Int.reduceBNe, Nat.reduceMul, Int.reduceAdd, Int.reduceMul, Int.reduceSub, Int.reduceEq, Int.reduceNe]
    simp (config := { maxSteps := 400000 }) only [go_sem, ↓reduceIte, reduceCtorEq, Nat.reduceEqDiff, Nat.reduceAdd, Nat.reduceLT, Nat.reduceLeDiff, Nat.reduceSub, Int.reduceToNat, Int.reduceLE, Int.reduceLT, Int.reduceNeg, Int.reduceBEq, Int.reduceBNe, Nat.reduceMul, Int.reduceAdd, Int.reduceMul, Int.reduceSub, Int.reduceEq, Int.reduceNe]
    refine WF_pure (cBdOut 0 100000 [_] true (by simp)) rfl ?_
    simp (config := { maxSteps := 400000 }) only [List.any_cons, List.any_nil, Bool.or_false, go_sem, ↓reduceIte, reduceCtorEq, Nat.reduceEqDiff, Nat.reduceAdd, Nat.reduceLT, Nat.reduceLeDiff, Nat.reduceSub, Int.reduceToNat, Int.reduceLE, Int.reduceLT, Int.reduceNeg, Int.reduceBEq, Int.reduceBNe, Nat.reduceMul, Int.reduceAdd, Int.reduceMul, Int.reduceSub, Int.reduceEq, Int.reduceNe]
    have bad : (gIn x.price 0 100000 && (inS x.melt 0 2000 && inS x.shrink 0 1000)) = false → bdWaxErr (done.map (·.name)) x = 7 := fun h => by rw [bdWaxErr_eq h2 (hany.trans h3) h]; rfl
    cases h4 : gIn x.price 0 100000
    · simp (config := { maxSteps := 400000 }) only [triple, fin 7 (bad (by rw [h4]; rfl)) (by decide), go_sem, ↓reduceIte, reduceCtorEq, Nat.reduceEqDiff, Nat.reduceAdd, Nat.reduceLT, Nat.reduceLeDiff, Nat.reduceSub, Int.reduceToNat, Int.reduceLE, Int.reduceLT, Int.reduceNeg, Int.reduceBEq, Int.reduceBNe, Nat.reduceMul, Int.reduceAdd, Int.reduceMul, Int.reduceSub, Int.reduceEq, Int.reduceNe]
    simp (config := { maxSteps := 400000 }) only [go_sem, ↓reduceIte, reduceCtorEq, Nat.reduceEqDiff, Nat.reduceAdd, Nat.reduceLT, Nat.reduceLeDiff, Nat.reduceSub, Int.reduceToNat, Int.reduceLE, Int.reduceLT, Int.reduceNeg, Int.reduceBEq, Int.reduceBNe, Nat.reduceMul, Int.reduceAdd, Int.reduceMul, Int.reduceSub, Int.reduceEq, Int.reduceNe]
    refine WF_pure (cBdOut 0 2000 [_, _] true (by simp)) rfl ?_
    simp (config := { maxSteps := 400000 }) only [List.any_cons, List.any_nil, Bool.or_false, ← Bool.not_and, go_sem, ↓reduceIte, reduceCtorEq, Nat.reduceEqDiff, Nat.reduceAdd, Nat.reduceLT, Nat.reduceLeDiff, Nat.reduceSub, Int.reduceToNat, Int.reduceLE, Int.reduceLT, Int.reduceNeg, Int.reduceBEq, Int.reduceBNe, Nat.reduceMul, Int.reduceAdd, Int.reduceMul, Int.reduceSub, Int.reduceEq, Int.reduceNe]
    cases h5 : (gIn x.melt.lo 0 2000 && gIn x.melt.hi 0 2000)
    · simp (config := { maxSteps := 400000 }) only [triple, fin 7 (bad (by rw [inS, h5]; simp)) (by decide), go_sem, ↓reduceIte, reduceCtorEq, Nat.reduceEqDiff, Nat.reduceAdd, Nat.reduceLT, Nat.reduceLeDiff, Nat.reduceSub, Int.reduceToNat, Int.reduceLE, Int.reduceLT, Int.reduceNeg, Int.reduceBEq, Int.reduceBNe, Nat.reduceMul, Int.reduceAdd, Int.reduceMul, Int.reduceSub, Int.reduceEq, Int.reduceNe]
    simp (config := { maxSteps := 400000 }) only [go_sem, ↓reduceIte, reduceCtorEq, Nat.reduceEqDiff, Nat.reduceAdd, Nat.reduceLT, Nat.reduceLeDiff, Nat.reduceSub, Int.reduceToNat, Int.reduceLE, Int.reduceLT, Int.reduceNeg, Int.reduceBEq, Int.reduceBNe, Nat.reduceMul, Int.reduceAdd, Int.reduceMul, Int.reduceSub, Int.reduceEq, Int.reduceNe]
    refine WF_pure (cBdOut 0 1000 [_, _] true (by simp)) rfl ?_
    simp (config := { maxSteps := 400000 }) only [List.any_cons, List.any_nil, Bool.or_false, ← Bool.not_and, go_sem, ↓reduceIte, reduceCtorEq, Nat.reduceEqDiff, Nat.reduceAdd, Nat.reduceLT, Nat.reduceLeDiff, Nat.reduceSub, Int.reduceToNat, Int.reduceLE, Int.reduceLT, Int.reduceNeg, Int.reduceBEq, Int.reduceBNe, Nat.reduceMul, Int.reduceAdd, Int.reduceMul, Int.reduceSub, Int.reduceEq, Int.reduceNe]
    cases h6 : (gIn x.shrink.lo 0 1000 && gIn x.shrink.hi 0 1000)
    · simp (config := { maxSteps := 400000 }) only [triple, fin 7 (bad (by rw [inS, inS, h6]; simp)) (by decide), go_sem, ↓reduceIte, reduceCtorEq, Nat.reduceEqDiff, Nat.reduceAdd, Nat.reduceLT, Nat.reduceLeDiff, Nat.reduceSub, Int.reduceToNat, Int.reduceLE, Int.reduceLT, Int.reduceNeg, Int.reduceBEq, Int.reduceBNe, Nat.reduceMul, Int.reduceAdd, Int.reduceMul, Int.reduceSub, Int.reduceEq, Int.reduceNe]
    have hc : (gIn x.price 0 100000 && (inS x.melt 0 2000 && inS x.shrink 0 1000)) = true := by rw [inS, inS, h4, h5, h6]; rfl
    simp (config := { maxSteps := 400000 }) only [go_sem, ↓reduceIte, reduceCtorEq, Nat.reduceEqDiff, Nat.reduceAdd, Nat.reduceLT, Nat.reduceLeDiff, Nat.reduceSub, Int.reduceToNat, Int.reduceLE, Int.reduceLT, Int.reduceNeg, Int.reduceBEq, Int.reduceBNe, Nat.reduceMul, Int.reduceAdd, Int.reduceMul, Int.reduceSub, Int.reduceEq, Int.reduceNe]
    cases h7 : decide (x.melt.hi < x.melt.lo)
    rotate_left
    · simp (config := { maxSteps := 400000 }) only [triple, fin 2 (by rw [bdWaxErr_eq h2 (hany.trans h3) hc, turnedS, h7]; rfl) (by decide), go_sem, ↓reduceIte, reduceCtorEq, Nat.reduceEqDiff, Nat.reduceAdd, Nat.reduceLT, Nat.reduceLeDiff, Nat.reduceSub, Int.reduceToNat, Int.reduceLE, Int.reduceLT, Int.reduceNeg, Int.reduceBEq, Int.reduceBNe, Nat.reduceMul, Int.reduceAdd, Int.reduceMul, Int.reduceSub, Int.reduceEq, Int.reduceNe]
    simp (config := { maxSteps := 400000 }) only [go_sem, ↓reduceIte, reduceCtorEq, Nat.reduceEqDiff, Nat.reduceAdd, Nat.reduceLT, Nat.reduceLeDiff, Nat.reduceSub, Int.reduceToNat, Int.reduceLE, Int.reduceLT, Int.reduceNeg, Int.reduceBEq, Int.reduceBNe, Nat.reduceMul, Int.reduceAdd, Int.reduceMul, Int.reduceSub, Int.reduceEq, Int.reduceNe]
    cases h8 : decide (x.shrink.hi < x.shrink.lo)
    rotate_left
    · simp (config := { maxSteps := 400000 }) only [triple, fin 2 (by rw [bdWaxErr_eq h2 (hany.trans h3) hc, turnedS, turnedS, h7, h8]; rfl) (by decide), go_sem, ↓reduceIte, reduceCtorEq, Nat.reduceEqDiff, Nat.reduceAdd, Nat.reduceLT, Nat.reduceLeDiff, Nat.reduceSub, Int.reduceToNat, Int.reduceLE, Int.reduceLT, Int.reduceNeg, Int.reduceBEq, Int.reduceBNe, Nat.reduceMul, Int.reduceAdd, Int.reduceMul, Int.reduceSub, Int.reduceEq, Int.reduceNe]
    simp (config := { maxSteps := 400000 }) only [go_sem, ↓reduceIte, reduceCtorEq, Nat.reduceEqDiff, Nat.reduceAdd, Nat.reduceLT, Nat.reduceLeDiff, Nat.reduceSub, Int.reduceToNat, Int.reduceLE, Int.reduceLT, Int.reduceNeg, Int.reduceBEq, Int.reduceBNe, Nat.reduceMul, Int.reduceAdd, Int.reduceMul, Int.reduceSub, Int.reduceEq, Int.reduceNe]
    refine WF_pure (cBdCurve x.curve false 0) rfl ?_
    simp (config := { maxSteps := 400000 }) only [go_sem, ↓reduceIte, reduceCtorEq, Nat.reduceEqDiff, Nat.reduceAdd, Nat.reduceLT, Nat.reduceLeDiff, Nat.reduceSub, Int.reduceToNat, Int.reduceLE, Int.reduceLT, Int.reduceNeg, Int.reduceBEq, Int.reduceBNe, Nat.reduceMul, Int.reduceAdd, Int.reduceMul, Int.reduceSub, Int.reduceEq, Int.reduceNe]
    have hw : bdWaxErr (done.map (·.name)) x = curveErr x.curve := by rw [bdWaxErr_eq h2 (hany.trans h3) hc, turnedS, turnedS, h7, h8]; rfl
    cases h9 : (curveErr x.curve != 0)
    · have h9' : curveErr x.curve = 0 := by simpa using h9
      simp (config := { maxSteps := 400000 }) only [go_sem, ↓reduceIte, reduceCtorEq, Nat.reduceEqDiff, Nat.reduceAdd, Nat.reduceLT, Nat.reduceLeDiff, Nat.reduceSub, Int.reduceToNat, Int.reduceLE, Int.reduceLT, Int.reduceNeg, Int.reduceBEq, Int.reduceBNe, Nat.reduceMul, Int.reduceAdd, Int.reduceMul, Int.reduceSub, Int.reduceEq, Int.reduceNe]
      refine WQ_next e1 () (by rw [hE, if_pos (hw.trans h9')]) ?_
      simp (config := { maxSteps := 400000 }) only [hnx, h9', go_sem, ↓reduceIte, reduceCtorEq, Nat.reduceEqDiff, Nat.reduceAdd, Nat.reduceLT, Nat.reduceLeDiff, Nat.reduceSub, Int.reduceToNat, Int.reduceLE, Int.reduceLT, Int.reduceNeg, Int.reduceBEq, Int.reduceBNe, Nat.reduceMul, Int.reduceAdd, Int.reduceMul, Int.reduceSub, Int.reduceEq, Int.reduceNe]
    · simp (config := { maxSteps := 400000 }) only [triple, fin _ hw (by simpa using h9), go_sem, ↓reduceIte, reduceCtorEq, Nat.reduceEqDiff, Nat.reduceAdd, Nat.reduceLT, Nat.reduceLeDiff, Nat.reduceSub, Int.reduceToNat, Int.reduceLE, Int.reduceLT, Int.reduceNeg, Int.reduceBEq, Int.reduceBNe, Nat.reduceMul, Int.reduceAdd, Int.reduceMul, Int.reduceSub, Int.reduceEq, Int.reduceNe]
end Abs
end Go.Proofs.Ythekmbikolpmlaa
