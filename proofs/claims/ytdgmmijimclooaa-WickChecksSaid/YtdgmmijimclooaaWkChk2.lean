/-
  CONTRACTS: Check, in the program and in the reference: both come to 'checkSpec'.
-/
import Derived.Test.YtdgmmijimclooaaWkChk
namespace Go.Proofs.Ytdgmmijimclooaa
namespace Abs
set_option linter.unusedSimpArgs false
set_option maxRecDepth 4000

/-! leaving by a panic that is taken up -/
theorem hMust (b : Bool) (e : Int) (h : Heap) : HCall Try.prog 43 [.p (.bool b), .p (.int .i64 e)] h (fun r h' => h' = h ∧ r = if b = true then .ret (.p (.tuple [])) else .panic (.iface 28 (.int .i64 e))) := by
  refine hcall_of_wp draws (fn := Try.f43) (n := 8) (rs := []) (by kernel_rfl) rfl rfl rfl ok43 (Nat.le_of_ble_eq_true rfl) ?_
  simp (maxSteps := 400000) only [go_sem, ↓reduceIte, reduceCtorEq, Nat.reduceEqDiff, Nat.reduceAdd, Nat.reduceLT, Nat.reduceLeDiff, Nat.reduceSub, Int.reduceToNat, Int.reduceLE, Int.reduceLT, Int.reduceNeg, Int.reduceBEq, Int.reduceBNe, Nat.reduceMul, Int.reduceAdd, Int.reduceMul, Int.reduceSub, Int.reduceEq, Int.reduceNe]
  cases b
  · simp (maxSteps := 400000) only [go_sem, ↓reduceIte, reduceCtorEq, Nat.reduceEqDiff, Nat.reduceAdd, Nat.reduceLT, Nat.reduceLeDiff, Nat.reduceSub, Int.reduceToNat, Int.reduceLE, Int.reduceLT, Int.reduceNeg, Int.reduceBEq, Int.reduceBNe, Nat.reduceMul, Int.reduceAdd, Int.reduceMul, Int.reduceSub, Int.reduceEq, Int.reduceNe]
  · simp (maxSteps := 400000) only [go_sem, ↓reduceIte, reduceCtorEq, Nat.reduceEqDiff, Nat.reduceAdd, Nat.reduceLT, Nat.reduceLeDiff, Nat.reduceSub, Int.reduceToNat, Int.reduceLE, Int.reduceLT, Int.reduceNeg, Int.reduceBEq, Int.reduceBNe, Nat.reduceMul, Int.reduceAdd, Int.reduceMul, Int.reduceSub, Int.reduceEq, Int.reduceNe]
theorem WF_must {H : Hints} {Q : Cont} {ops : Array Oper} {rest : List Oper} {dst : Option Tmp} {A : AAct} {b : Bool} {e : Int} (h1 : b = true → @WO ⟨Try.prog, H, ops, rest, Q⟩ (A.put dst (.p (.tuple [])) A.h))
    (h2 : b = false → @WQ ⟨Q⟩ (.panic (.iface 28 (.int .i64 e))) A) : @WF ⟨Try.prog, H, ops, rest, Q, dst⟩ A 43 [.p (.bool b), .p (.int .i64 e)] := by
  refine WF_call (hMust b e A.h) (fun v h hr => ?_) (fun v h hr => ?_)
  · obtain ⟨rfl, hr⟩ := hr
    cases b
    · cases hr
    · cases hr; exact h1 rfl
  · obtain ⟨rfl, hr⟩ := hr
    cases b
    · cases hr; exact h2 rfl
    · cases hr
theorem dRec {id : Nat} {e e0 : Int} {h : Heap} (hid : h[id]? = some (.row 1 [.p (.int .i64 e0)])) : DCall Try.prog 42 [.ptr id 1 0 0] (.pan (.iface 28 (.int .i64 e))) h
    (fun r u h' => r = .ret (.p (.tuple [])) ∧ u = .recd (.iface 28 (.int .i64 e)) ∧ h' = h.set id (.row 1 [.p (.int .i64 e)])) := by
  refine dcall_of_wp draws (fn := Try.f42) (n := 7) (rs := []) (by kernel_rfl) rfl rfl rfl ok42 (Nat.le_of_ble_eq_true rfl) ?_
  simp (maxSteps := 400000) only [rcOf, modeOf, hid, go_sem, ↓reduceIte, reduceCtorEq, Nat.reduceEqDiff, Nat.reduceAdd, Nat.reduceLT, Nat.reduceLeDiff, Nat.reduceSub, Int.reduceToNat, Int.reduceLE, Int.reduceLT, Int.reduceNeg, Int.reduceBEq, Int.reduceBNe, Nat.reduceMul, Int.reduceAdd, Int.reduceMul, Int.reduceSub, Int.reduceEq, Int.reduceNe]
theorem dNo {id : Nat} {h : Heap} : DCall Try.prog 42 [.ptr id 1 0 0] .ret h (fun r u h' => r = .ret (.p (.tuple [])) ∧ u = .ret ∧ h' = h) := by
  refine dcall_of_wp draws (fn := Try.f42) (n := 7) (rs := []) (by kernel_rfl) rfl rfl rfl ok42 (Nat.le_of_ble_eq_true rfl) ?_
  simp (maxSteps := 400000) only [rcOf, modeOf, go_sem, ↓reduceIte, reduceCtorEq, Nat.reduceEqDiff, Nat.reduceAdd, Nat.reduceLT, Nat.reduceLeDiff, Nat.reduceSub, Int.reduceToNat, Int.reduceLE, Int.reduceLT, Int.reduceNeg, Int.reduceBEq, Int.reduceBNe, Nat.reduceMul, Int.reduceAdd, Int.reduceMul, Int.reduceSub, Int.reduceEq, Int.reduceNe]
theorem leave_rec {rs : List ResultVar} {R : AEnd → Heap → Prop} {T : Nat → AV} {id : Nat} {e e0 : Int} {h : Heap} (hid : h[id]? = some (.row 1 [.p (.int .i64 e0)])) (k : aLeave Try.prog rs R T [] .ret (h.set id (.row 1 [.p (.int .i64 e)]))) :
    aLeave Try.prog rs R T [.fn 42 [.ptr id 1 0 0]] (.pan (.iface 28 (.int .i64 e))) h := by
  rw [leave_fn]
  refine (dRec hid).mono fun r u h' hr => ?_
  obtain ⟨rfl, rfl, rfl⟩ := hr
  exact k
theorem leave_no {rs : List ResultVar} {R : AEnd → Heap → Prop} {T : Nat → AV} {id : Nat} {h : Heap} (k : aLeave Try.prog rs R T [] .ret h) : aLeave Try.prog rs R T [.fn 42 [.ptr id 1 0 0]] .ret h := by
  rw [leave_fn]
  refine dNo.mono fun r u h' hr => ?_
  obtain ⟨rfl, rfl, rfl⟩ := hr
  exact k

/-! what Check is -/
def inS (s : Span) (lo hi : Int) : Bool := gIn s.lo lo hi && gIn s.hi lo hi
def turnedS (s : Span) : Bool := decide (s.hi < s.lo)
def wickErr (before : List ByteArray) (x : Wick) : Int :=
  if namedErr before x.name = 0 then (if (gIn x.threads 1 100 && inS x.pull 1 1000) = true then (if turnedS x.pull = true then 2 else 0) else 7) else namedErr before x.name
def waxErr (before : List ByteArray) (x : Wax) : Int :=
  if namedErr before x.name = 0 then (if (gIn x.chill 0 50 && inS x.flow 1 300 && (inS x.rise 1 1000 && inS x.spread 1 2000)) = true then (if (turnedS x.flow || (turnedS x.rise || turnedS x.spread)) = true then 2 else 0) else 7) else namedErr before x.name
def firstErr {α : Type} (f : List ByteArray → α → Int) (nm : α → ByteArray) : List α → List ByteArray → Option (Int × Int)
  | [], _ => none
  | x :: r, before => if f before x = 0 then firstErr f nm r (before ++ [nm x]) else some ((before.length : Int), f before x)
def checkTail (s : Shop) : Option (Int × Int) → Int × Int × Int
  | some (i, e) => (2, i, e)
  | none => match firstErr waxErr (·.name) s.waxes [] with | some (i, e) => (3, i, e) | none => (0, 0, 0)
def checkSpec (s : Shop) : Int × Int × Int :=
  if (gIn s.wicks.length 1 12 && gIn s.waxes.length 1 6) = true then
    if (inS s.flame 0 2000 && inS s.pool 0 2000) = true then
      if (turnedS s.flame || turnedS s.pool) = true then (1, 0, 2) else checkTail s (firstErr wickErr (·.name) s.wicks [])
    else (1, 0, 7)
  else (1, 0, 3)
def triple (t : Int × Int × Int) : PV := .tuple [.int .i64 t.1, .int .i64 t.2.1, .int .i64 t.2.2]

theorem cCheck (s : Shop) : PCall Try.prog 14 [s.pv] (triple (checkSpec s)) := by
  refine pcall_of_wp draws (fn := Try.f14) (n := 160) (rs := [.tmp 2, .tmp 3, .cell 4 28]) (by kernel_rfl) rfl rfl rfl ok14 (Nat.le_of_ble_eq_true rfl) ?_
  simp (maxSteps := 400000) only [go_sem, ↓reduceIte, reduceCtorEq, Nat.reduceEqDiff, Nat.reduceAdd, Nat.reduceLT, Nat.reduceLeDiff, Nat.reduceSub, Int.reduceToNat, Int.reduceLE, Int.reduceLT, Int.reduceNeg, Int.reduceBEq, Int.reduceBNe, Nat.reduceMul, Int.reduceAdd, Int.reduceMul, Int.reduceSub, Int.reduceEq, Int.reduceNe]
  refine WF_pure (cOut 1 12 [_] true (by simp)) rfl ?_
  simp (maxSteps := 400000) only [List.any_cons, List.any_nil, Bool.or_false, Bool.not_not, go_sem, ↓reduceIte, reduceCtorEq, Nat.reduceEqDiff, Nat.reduceAdd, Nat.reduceLT, Nat.reduceLeDiff, Nat.reduceSub, Int.reduceToNat, Int.reduceLE, Int.reduceLT, Int.reduceNeg, Int.reduceBEq, Int.reduceBNe, Nat.reduceMul, Int.reduceAdd, Int.reduceMul, Int.reduceSub, Int.reduceEq, Int.reduceNe]
  cases h1 : gIn s.wicks.length 1 12
  · simp (maxSteps := 400000) only [go_sem, ↓reduceIte, reduceCtorEq, Nat.reduceEqDiff, Nat.reduceAdd, Nat.reduceLT, Nat.reduceLeDiff, Nat.reduceSub, Int.reduceToNat, Int.reduceLE, Int.reduceLT, Int.reduceNeg, Int.reduceBEq, Int.reduceBNe, Nat.reduceMul, Int.reduceAdd, Int.reduceMul, Int.reduceSub, Int.reduceEq, Int.reduceNe]
    refine WF_must (fun h => (by cases h)) fun _ => ?_
    simp (maxSteps := 400000) only [go_sem, ↓reduceIte, reduceCtorEq, Nat.reduceEqDiff, Nat.reduceAdd, Nat.reduceLT, Nat.reduceLeDiff, Nat.reduceSub, Int.reduceToNat, Int.reduceLE, Int.reduceLT, Int.reduceNeg, Int.reduceBEq, Int.reduceBNe, Nat.reduceMul, Int.reduceAdd, Int.reduceMul, Int.reduceSub, Int.reduceEq, Int.reduceNe]
    refine leave_rec rfl ?_
    simp (maxSteps := 400000) only [triple, checkSpec, h1, go_sem, ↓reduceIte, reduceCtorEq, Nat.reduceEqDiff, Nat.reduceAdd, Nat.reduceLT, Nat.reduceLeDiff, Nat.reduceSub, Int.reduceToNat, Int.reduceLE, Int.reduceLT, Int.reduceNeg, Int.reduceBEq, Int.reduceBNe, Nat.reduceMul, Int.reduceAdd, Int.reduceMul, Int.reduceSub, Int.reduceEq, Int.reduceNe]
  simp (maxSteps := 400000) only [go_sem, ↓reduceIte, reduceCtorEq, Nat.reduceEqDiff, Nat.reduceAdd, Nat.reduceLT, Nat.reduceLeDiff, Nat.reduceSub, Int.reduceToNat, Int.reduceLE, Int.reduceLT, Int.reduceNeg, Int.reduceBEq, Int.reduceBNe, Nat.reduceMul, Int.reduceAdd, Int.reduceMul, Int.reduceSub, Int.reduceEq, Int.reduceNe]
  refine WF_pure (cOut 1 6 [_] true (by simp)) rfl ?_
  simp (maxSteps := 400000) only [List.any_cons, List.any_nil, Bool.or_false, Bool.not_not, go_sem, ↓reduceIte, reduceCtorEq, Nat.reduceEqDiff, Nat.reduceAdd, Nat.reduceLT, Nat.reduceLeDiff, Nat.reduceSub, Int.reduceToNat, Int.reduceLE, Int.reduceLT, Int.reduceNeg, Int.reduceBEq, Int.reduceBNe, Nat.reduceMul, Int.reduceAdd, Int.reduceMul, Int.reduceSub, Int.reduceEq, Int.reduceNe]
  refine WF_must (fun h2 => ?_) fun h2 => ?_
  rotate_left
  · simp (maxSteps := 400000) only [go_sem, ↓reduceIte, reduceCtorEq, Nat.reduceEqDiff, Nat.reduceAdd, Nat.reduceLT, Nat.reduceLeDiff, Nat.reduceSub, Int.reduceToNat, Int.reduceLE, Int.reduceLT, Int.reduceNeg, Int.reduceBEq, Int.reduceBNe, Nat.reduceMul, Int.reduceAdd, Int.reduceMul, Int.reduceSub, Int.reduceEq, Int.reduceNe]
    refine leave_rec rfl ?_
    simp (maxSteps := 400000) only [triple, checkSpec, h1, h2, go_sem, ↓reduceIte, reduceCtorEq, Nat.reduceEqDiff, Nat.reduceAdd, Nat.reduceLT, Nat.reduceLeDiff, Nat.reduceSub, Int.reduceToNat, Int.reduceLE, Int.reduceLT, Int.reduceNeg, Int.reduceBEq, Int.reduceBNe, Nat.reduceMul, Int.reduceAdd, Int.reduceMul, Int.reduceSub, Int.reduceEq, Int.reduceNe]
  simp (maxSteps := 400000) only [go_sem, ↓reduceIte, reduceCtorEq, Nat.reduceEqDiff, Nat.reduceAdd, Nat.reduceLT, Nat.reduceLeDiff, Nat.reduceSub, Int.reduceToNat, Int.reduceLE, Int.reduceLT, Int.reduceNeg, Int.reduceBEq, Int.reduceBNe, Nat.reduceMul, Int.reduceAdd, Int.reduceMul, Int.reduceSub, Int.reduceEq, Int.reduceNe]
  refine WF_pure (cOut 0 2000 [_, _, _, _] true (by simp)) rfl ?_
  simp (maxSteps := 400000) only [List.any_cons, List.any_nil, Bool.or_false, ← Bool.not_and, Bool.not_not, go_sem, ↓reduceIte, reduceCtorEq, Nat.reduceEqDiff, Nat.reduceAdd, Nat.reduceLT, Nat.reduceLeDiff, Nat.reduceSub, Int.reduceToNat, Int.reduceLE, Int.reduceLT, Int.reduceNeg, Int.reduceBEq, Int.reduceBNe, Nat.reduceMul, Int.reduceAdd, Int.reduceMul, Int.reduceSub, Int.reduceEq, Int.reduceNe]
  refine WF_must (fun h3 => ?_) fun h3 => ?_
  rotate_left
  · simp (maxSteps := 400000) only [go_sem, ↓reduceIte, reduceCtorEq, Nat.reduceEqDiff, Nat.reduceAdd, Nat.reduceLT, Nat.reduceLeDiff, Nat.reduceSub, Int.reduceToNat, Int.reduceLE, Int.reduceLT, Int.reduceNeg, Int.reduceBEq, Int.reduceBNe, Nat.reduceMul, Int.reduceAdd, Int.reduceMul, Int.reduceSub, Int.reduceEq, Int.reduceNe]
    refine leave_rec rfl ?_
    have h3' : (inS s.flame 0 2000 && inS s.pool 0 2000) = false := by rw [← h3]; simp [inS, Bool.and_assoc]
    simp (maxSteps := 400000) only [triple, checkSpec, h1, h2, h3', go_sem, ↓reduceIte, reduceCtorEq, Nat.reduceEqDiff, Nat.reduceAdd, Nat.reduceLT, Nat.reduceLeDiff, Nat.reduceSub, Int.reduceToNat, Int.reduceLE, Int.reduceLT, Int.reduceNeg, Int.reduceBEq, Int.reduceBNe, Nat.reduceMul, Int.reduceAdd, Int.reduceMul, Int.reduceSub, Int.reduceEq, Int.reduceNe]
  have h3' : (inS s.flame 0 2000 && inS s.pool 0 2000) = true := by rw [← h3]; simp [inS, Bool.and_assoc]
  simp (maxSteps := 400000) only [go_sem, ↓reduceIte, reduceCtorEq, Nat.reduceEqDiff, Nat.reduceAdd, Nat.reduceLT, Nat.reduceLeDiff, Nat.reduceSub, Int.reduceToNat, Int.reduceLE, Int.reduceLT, Int.reduceNeg, Int.reduceBEq, Int.reduceBNe, Nat.reduceMul, Int.reduceAdd, Int.reduceMul, Int.reduceSub, Int.reduceEq, Int.reduceNe]
  refine WF_pure (cTurned [s.flame, s.pool] true (by simp)) rfl ?_
  simp (maxSteps := 400000) only [List.any_cons, List.any_nil, Bool.or_false, go_sem, ↓reduceIte, reduceCtorEq, Nat.reduceEqDiff, Nat.reduceAdd, Nat.reduceLT, Nat.reduceLeDiff, Nat.reduceSub, Int.reduceToNat, Int.reduceLE, Int.reduceLT, Int.reduceNeg, Int.reduceBEq, Int.reduceBNe, Nat.reduceMul, Int.reduceAdd, Int.reduceMul, Int.reduceSub, Int.reduceEq, Int.reduceNe]
  refine WF_must (fun h4 => ?_) fun h4 => ?_
  rotate_left
  · simp (maxSteps := 400000) only [go_sem, ↓reduceIte, reduceCtorEq, Nat.reduceEqDiff, Nat.reduceAdd, Nat.reduceLT, Nat.reduceLeDiff, Nat.reduceSub, Int.reduceToNat, Int.reduceLE, Int.reduceLT, Int.reduceNeg, Int.reduceBEq, Int.reduceBNe, Nat.reduceMul, Int.reduceAdd, Int.reduceMul, Int.reduceSub, Int.reduceEq, Int.reduceNe]
    refine leave_rec rfl ?_
    have h4' : (turnedS s.flame || turnedS s.pool) = true := (by have := congrArg (!·) h4; simpa only [turnedS, Bool.not_not, Bool.not_false] using this)
    simp (maxSteps := 400000) only [triple, checkSpec, h1, h2, h3', h4', go_sem, ↓reduceIte, reduceCtorEq, Nat.reduceEqDiff, Nat.reduceAdd, Nat.reduceLT, Nat.reduceLeDiff, Nat.reduceSub, Int.reduceToNat, Int.reduceLE, Int.reduceLT, Int.reduceNeg, Int.reduceBEq, Int.reduceBNe, Nat.reduceMul, Int.reduceAdd, Int.reduceMul, Int.reduceSub, Int.reduceEq, Int.reduceNe]
  have h4' : (turnedS s.flame || turnedS s.pool) = false := by simpa [turnedS] using h4
  have hspec : checkSpec s = checkTail s (firstErr wickErr (·.name) s.wicks []) := by
    simp [checkSpec, h1, h2, h3', h4']
  rw [hspec]
  have hlw : s.wicks.length ≤ 12 := by simp [gIn] at h1; omega
  have hlx : s.waxes.length ≤ 6 := by simp [gIn] at h2; omega
  simp (maxSteps := 400000) only [go_sem, ↓reduceIte, reduceCtorEq, Nat.reduceEqDiff, Nat.reduceAdd, Nat.reduceLT, Nat.reduceLeDiff, Nat.reduceSub, Int.reduceToNat, Int.reduceLE, Int.reduceLT, Int.reduceNeg, Int.reduceBEq, Int.reduceBNe, Nat.reduceMul, Int.reduceAdd, Int.reduceMul, Int.reduceSub, Int.reduceEq, Int.reduceNe]
  refine W_loopA [1, 2, 4, 50, 51] (σ := List Wick × List Wick) (fun q => s.wicks = q.1 ++ q.2 ∧ firstErr wickErr (·.name) s.wicks [] = firstErr wickErr (·.name) q.2 (q.1.map (·.name))) (fun q => q.2.length)
    (fun q => [(52, .p (.int .i64 q.1.length))]) (fun _ => [.row 6 [.p s.pv], .row 1 [.p (.int .i64 0)]]) ([], s.wicks) ⟨rfl, rfl⟩ ?_ ?_
  · simp (maxSteps := 400000) only [go_sem, ↓reduceIte, reduceCtorEq, Nat.reduceEqDiff, Nat.reduceAdd, Nat.reduceLT, Nat.reduceLeDiff, Nat.reduceSub, Int.reduceToNat, Int.reduceLE, Int.reduceLT, Int.reduceNeg, Int.reduceBEq, Int.reduceBNe, Nat.reduceMul, Int.reduceAdd, Int.reduceMul, Int.reduceSub, Int.reduceEq, Int.reduceNe] <;> simp
  rintro ⟨done, rest⟩ ⟨e1, e2⟩
  dsimp only at e1 e2
  cases rest with
  | cons x r =>
    obtain ⟨hx, hlt⟩ := list_at e1
    have hln : (done ++ [x]).length ≤ s.wicks.length := by rw [e1]; simp
    have hdl : done.length < 12 := by simp at hln; omega
    have hnx : IntKind.i64.wrap ((done.length : Int) + 1) = (((done ++ [x]).length : Nat) : Int) := wrap_add (by omega) (by simp [room]; omega) (by simp)
    have hle : (((done ++ [x]).length : Nat) : Int) ≤ (s.wicks.length : Int) := by omega
    have htk : (s.wicks.map Wick.pv).take (done ++ [x]).length = (done ++ [x]).map Wick.pv := by
      rw [e1, show done ++ x :: r = (done ++ [x]) ++ r by simp, List.map_append, List.take_left' (by simp)]
    have hE : firstErr wickErr (·.name) s.wicks [] = if wickErr (done.map (·.name)) x = 0 then firstErr wickErr (·.name) r ((done ++ [x]).map (·.name)) else some ((done.length : Int), wickErr (done.map (·.name)) x) := by
      rw [e2, firstErr]; simp
    have fin : ∀ e, wickErr (done.map (·.name)) x = e → e ≠ 0 → checkTail s (firstErr wickErr (·.name) s.wicks []) = (2, (done.length : Int), e) := by
      intro e he hne
      rw [hE, he, if_neg hne]; rfl
    simp (maxSteps := 400000) only [hlt, decide_true, hx, hnx, hle, Option.getD_none, Option.getD_some, htk, go_sem, ↓reduceIte, reduceCtorEq, Nat.reduceEqDiff, Nat.reduceAdd, Nat.reduceLT, Nat.reduceLeDiff, Nat.reduceSub, Int.reduceToNat, Int.reduceLE, Int.reduceLT, Int.reduceNeg, Int.reduceBEq, Int.reduceBNe, Nat.reduceMul, Int.reduceAdd, Int.reduceMul, Int.reduceSub, Int.reduceEq, Int.reduceNe]
    refine WF_pure (cNamed0 done x false (by omega)) rfl ?_
    simp (maxSteps := 400000) only [go_sem, ↓reduceIte, reduceCtorEq, Nat.reduceEqDiff, Nat.reduceAdd, Nat.reduceLT, Nat.reduceLeDiff, Nat.reduceSub, Int.reduceToNat, Int.reduceLE, Int.reduceLT, Int.reduceNeg, Int.reduceBEq, Int.reduceBNe, Nat.reduceMul, Int.reduceAdd, Int.reduceMul, Int.reduceSub, Int.reduceEq, Int.reduceNe]
    refine WF_must (fun h5 => ?_) fun h5 => ?_
    rotate_left
    · simp (maxSteps := 400000) only [go_sem, ↓reduceIte, reduceCtorEq, Nat.reduceEqDiff, Nat.reduceAdd, Nat.reduceLT, Nat.reduceLeDiff, Nat.reduceSub, Int.reduceToNat, Int.reduceLE, Int.reduceLT, Int.reduceNeg, Int.reduceBEq, Int.reduceBNe, Nat.reduceMul, Int.reduceAdd, Int.reduceMul, Int.reduceSub, Int.reduceEq, Int.reduceNe]
      refine leave_rec rfl ?_
      have h5' : namedErr (done.map (·.name)) x.name ≠ 0 := by simpa using h5
      simp (maxSteps := 400000) only [triple, fin _ (by rw [wickErr, if_neg h5']) h5', go_sem, ↓reduceIte, reduceCtorEq, Nat.reduceEqDiff, Nat.reduceAdd, Nat.reduceLT, Nat.reduceLeDiff, Nat.reduceSub, Int.reduceToNat, Int.reduceLE, Int.reduceLT, Int.reduceNeg, Int.reduceBEq, Int.reduceBNe, Nat.reduceMul, Int.reduceAdd, Int.reduceMul, Int.reduceSub, Int.reduceEq, Int.reduceNe]
    have h5' : namedErr (done.map (·.name)) x.name = 0 := by simpa using h5
    simp (maxSteps := 400000) only [go_sem, ↓reduceIte, reduceCtorEq, Nat.reduceEqDiff, Nat.reduceAdd, Nat.reduceLT, Nat.reduceLeDiff, Nat.reduceSub, Int.reduceToNat, Int.reduceLE, Int.reduceLT, Int.reduceNeg, Int.reduceBEq, Int.reduceBNe, Nat.reduceMul, Int.reduceAdd, Int.reduceMul, Int.reduceSub, Int.reduceEq, Int.reduceNe]
    refine WF_pure (cOut 1 100 [_] true (by simp)) rfl ?_
    simp (maxSteps := 400000) only [List.any_cons, List.any_nil, Bool.or_false, Bool.not_not, go_sem, ↓reduceIte, reduceCtorEq, Nat.reduceEqDiff, Nat.reduceAdd, Nat.reduceLT, Nat.reduceLeDiff, Nat.reduceSub, Int.reduceToNat, Int.reduceLE, Int.reduceLT, Int.reduceNeg, Int.reduceBEq, Int.reduceBNe, Nat.reduceMul, Int.reduceAdd, Int.reduceMul, Int.reduceSub, Int.reduceEq, Int.reduceNe]
    cases h6 : gIn x.threads 1 100
    · simp (maxSteps := 400000) only [go_sem, ↓reduceIte, reduceCtorEq, Nat.reduceEqDiff, Nat.reduceAdd, Nat.reduceLT, Nat.reduceLeDiff, Nat.reduceSub, Int.reduceToNat, Int.reduceLE, Int.reduceLT, Int.reduceNeg, Int.reduceBEq, Int.reduceBNe, Nat.reduceMul, Int.reduceAdd, Int.reduceMul, Int.reduceSub, Int.reduceEq, Int.reduceNe]
      refine WF_must (fun h => (by cases h)) fun _ => ?_
      simp (maxSteps := 400000) only [go_sem, ↓reduceIte, reduceCtorEq, Nat.reduceEqDiff, Nat.reduceAdd, Nat.reduceLT, Nat.reduceLeDiff, Nat.reduceSub, Int.reduceToNat, Int.reduceLE, Int.reduceLT, Int.reduceNeg, Int.reduceBEq, Int.reduceBNe, Nat.reduceMul, Int.reduceAdd, Int.reduceMul, Int.reduceSub, Int.reduceEq, Int.reduceNe]
      refine leave_rec rfl ?_
      simp (maxSteps := 400000) only [triple, fin 7 (by simp [wickErr, h5', h6]) (by decide), go_sem, ↓reduceIte, reduceCtorEq, Nat.reduceEqDiff, Nat.reduceAdd, Nat.reduceLT, Nat.reduceLeDiff, Nat.reduceSub, Int.reduceToNat, Int.reduceLE, Int.reduceLT, Int.reduceNeg, Int.reduceBEq, Int.reduceBNe, Nat.reduceMul, Int.reduceAdd, Int.reduceMul, Int.reduceSub, Int.reduceEq, Int.reduceNe]
    simp (maxSteps := 400000) only [go_sem, ↓reduceIte, reduceCtorEq, Nat.reduceEqDiff, Nat.reduceAdd, Nat.reduceLT, Nat.reduceLeDiff, Nat.reduceSub, Int.reduceToNat, Int.reduceLE, Int.reduceLT, Int.reduceNeg, Int.reduceBEq, Int.reduceBNe, Nat.reduceMul, Int.reduceAdd, Int.reduceMul, Int.reduceSub, Int.reduceEq, Int.reduceNe]
    refine WF_pure (cOut 1 1000 [_, _] true (by simp)) rfl ?_
    simp (maxSteps := 400000) only [List.any_cons, List.any_nil, Bool.or_false, ← Bool.not_and, Bool.not_not, go_sem, ↓reduceIte, reduceCtorEq, Nat.reduceEqDiff, Nat.reduceAdd, Nat.reduceLT, Nat.reduceLeDiff, Nat.reduceSub, Int.reduceToNat, Int.reduceLE, Int.reduceLT, Int.reduceNeg, Int.reduceBEq, Int.reduceBNe, Nat.reduceMul, Int.reduceAdd, Int.reduceMul, Int.reduceSub, Int.reduceEq, Int.reduceNe]
    refine WF_must (fun h7 => ?_) fun h7 => ?_
    rotate_left
    · simp (maxSteps := 400000) only [go_sem, ↓reduceIte, reduceCtorEq, Nat.reduceEqDiff, Nat.reduceAdd, Nat.reduceLT, Nat.reduceLeDiff, Nat.reduceSub, Int.reduceToNat, Int.reduceLE, Int.reduceLT, Int.reduceNeg, Int.reduceBEq, Int.reduceBNe, Nat.reduceMul, Int.reduceAdd, Int.reduceMul, Int.reduceSub, Int.reduceEq, Int.reduceNe]
      refine leave_rec rfl ?_
      simp (maxSteps := 400000) only [triple, fin 7 (by simp [wickErr, h5', h6, inS, h7]) (by decide), go_sem, ↓reduceIte, reduceCtorEq, Nat.reduceEqDiff, Nat.reduceAdd, Nat.reduceLT, Nat.reduceLeDiff, Nat.reduceSub, Int.reduceToNat, Int.reduceLE, Int.reduceLT, Int.reduceNeg, Int.reduceBEq, Int.reduceBNe, Nat.reduceMul, Int.reduceAdd, Int.reduceMul, Int.reduceSub, Int.reduceEq, Int.reduceNe]
    simp (maxSteps := 400000) only [go_sem, ↓reduceIte, reduceCtorEq, Nat.reduceEqDiff, Nat.reduceAdd, Nat.reduceLT, Nat.reduceLeDiff, Nat.reduceSub, Int.reduceToNat, Int.reduceLE, Int.reduceLT, Int.reduceNeg, Int.reduceBEq, Int.reduceBNe, Nat.reduceMul, Int.reduceAdd, Int.reduceMul, Int.reduceSub, Int.reduceEq, Int.reduceNe]
    refine WF_pure (cTurned [x.pull] true (by simp)) rfl ?_
    simp (maxSteps := 400000) only [List.any_cons, List.any_nil, Bool.or_false, go_sem, ↓reduceIte, reduceCtorEq, Nat.reduceEqDiff, Nat.reduceAdd, Nat.reduceLT, Nat.reduceLeDiff, Nat.reduceSub, Int.reduceToNat, Int.reduceLE, Int.reduceLT, Int.reduceNeg, Int.reduceBEq, Int.reduceBNe, Nat.reduceMul, Int.reduceAdd, Int.reduceMul, Int.reduceSub, Int.reduceEq, Int.reduceNe]
    refine WF_must (fun h8 => ?_) fun h8 => ?_
    rotate_left
    · simp (maxSteps := 400000) only [go_sem, ↓reduceIte, reduceCtorEq, Nat.reduceEqDiff, Nat.reduceAdd, Nat.reduceLT, Nat.reduceLeDiff, Nat.reduceSub, Int.reduceToNat, Int.reduceLE, Int.reduceLT, Int.reduceNeg, Int.reduceBEq, Int.reduceBNe, Nat.reduceMul, Int.reduceAdd, Int.reduceMul, Int.reduceSub, Int.reduceEq, Int.reduceNe]
      refine leave_rec rfl ?_
      simp (maxSteps := 400000) only [triple, fin 2 (by simp only [Bool.not_eq_false'] at h8; simp [wickErr, h5', h6, inS, h7, turnedS, h8]) (by decide), go_sem, ↓reduceIte, reduceCtorEq, Nat.reduceEqDiff, Nat.reduceAdd, Nat.reduceLT, Nat.reduceLeDiff, Nat.reduceSub, Int.reduceToNat, Int.reduceLE, Int.reduceLT, Int.reduceNeg, Int.reduceBEq, Int.reduceBNe, Nat.reduceMul, Int.reduceAdd, Int.reduceMul, Int.reduceSub, Int.reduceEq, Int.reduceNe]
    simp (maxSteps := 400000) only [go_sem, ↓reduceIte, reduceCtorEq, Nat.reduceEqDiff, Nat.reduceAdd, Nat.reduceLT, Nat.reduceLeDiff, Nat.reduceSub, Int.reduceToNat, Int.reduceLE, Int.reduceLT, Int.reduceNeg, Int.reduceBEq, Int.reduceBNe, Nat.reduceMul, Int.reduceAdd, Int.reduceMul, Int.reduceSub, Int.reduceEq, Int.reduceNe]
    refine WQ_headA (done ++ [x], r) ⟨by simp [e1], ?_⟩ (by simp) ?_
    · rw [hE, if_pos]
      simp only [Bool.not_eq_true'] at h8
      simp [wickErr, h5', h6, inS, h7, turnedS, h8]
    · simp (maxSteps := 400000) only [hnx, h5', go_sem, ↓reduceIte, reduceCtorEq, Nat.reduceEqDiff, Nat.reduceAdd, Nat.reduceLT, Nat.reduceLeDiff, Nat.reduceSub, Int.reduceToNat, Int.reduceLE, Int.reduceLT, Int.reduceNeg, Int.reduceBEq, Int.reduceBNe, Nat.reduceMul, Int.reduceAdd, Int.reduceMul, Int.reduceSub, Int.reduceEq, Int.reduceNe]
  | nil =>
    have hlt : ¬ ((done.length : Int) < (s.wicks.length : Int)) := by rw [e1]; simp
    have hT : checkTail s (firstErr wickErr (·.name) s.wicks []) = checkTail s none := by rw [e2]; rfl
    rw [hT]
    simp (maxSteps := 400000) only [hlt, decide_false, go_sem, ↓reduceIte, reduceCtorEq, Nat.reduceEqDiff, Nat.reduceAdd, Nat.reduceLT, Nat.reduceLeDiff, Nat.reduceSub, Int.reduceToNat, Int.reduceLE, Int.reduceLT, Int.reduceNeg, Int.reduceBEq, Int.reduceBNe, Nat.reduceMul, Int.reduceAdd, Int.reduceMul, Int.reduceSub, Int.reduceEq, Int.reduceNe]
    refine W_loopA [1, 2, 4, 93, 94] (σ := List Wax × List Wax) (fun q => s.waxes = q.1 ++ q.2 ∧ firstErr waxErr (·.name) s.waxes [] = firstErr waxErr (·.name) q.2 (q.1.map (·.name))) (fun q => q.2.length)
      (fun q => [(95, .p (.int .i64 q.1.length))]) (fun _ => [.row 6 [.p s.pv], .row 1 [.p (.int .i64 0)]]) ([], s.waxes) ⟨rfl, rfl⟩ ?_ ?_
    · simp (maxSteps := 400000) only [go_sem, ↓reduceIte, reduceCtorEq, Nat.reduceEqDiff, Nat.reduceAdd, Nat.reduceLT, Nat.reduceLeDiff, Nat.reduceSub, Int.reduceToNat, Int.reduceLE, Int.reduceLT, Int.reduceNeg, Int.reduceBEq, Int.reduceBNe, Nat.reduceMul, Int.reduceAdd, Int.reduceMul, Int.reduceSub, Int.reduceEq, Int.reduceNe] <;> simp
    clear e1 e2 hlt hT
    rintro ⟨done, rest⟩ ⟨e1, e2⟩
    dsimp only at e1 e2
    cases rest with
    | cons x r =>
      obtain ⟨hx, hlt⟩ := list_at e1
      have hln : (done ++ [x]).length ≤ s.waxes.length := by rw [e1]; simp
      have hdl : done.length < 12 := by simp at hln; omega
      have hnx : IntKind.i64.wrap ((done.length : Int) + 1) = (((done ++ [x]).length : Nat) : Int) := wrap_add (by omega) (by simp [room]; omega) (by simp)
      have hle : (((done ++ [x]).length : Nat) : Int) ≤ (s.waxes.length : Int) := by omega
      have htk : (s.waxes.map Wax.pv).take (done ++ [x]).length = (done ++ [x]).map Wax.pv := by
        rw [e1, show done ++ x :: r = (done ++ [x]) ++ r by simp, List.map_append, List.take_left' (by simp)]
      have hE : firstErr waxErr (·.name) s.waxes [] = if waxErr (done.map (·.name)) x = 0 then firstErr waxErr (·.name) r ((done ++ [x]).map (·.name)) else some ((done.length : Int), waxErr (done.map (·.name)) x) := by
        rw [e2, firstErr]; simp
      have fin : ∀ e, waxErr (done.map (·.name)) x = e → e ≠ 0 → checkTail s none = (3, (done.length : Int), e) := by
        intro e he hne
        simp only [checkTail]
        rw [hE, he, if_neg hne]
      simp (maxSteps := 400000) only [hlt, decide_true, hx, hnx, hle, Option.getD_none, Option.getD_some, htk, go_sem, ↓reduceIte, reduceCtorEq, Nat.reduceEqDiff, Nat.reduceAdd, Nat.reduceLT, Nat.reduceLeDiff, Nat.reduceSub, Int.reduceToNat, Int.reduceLE, Int.reduceLT, Int.reduceNeg, Int.reduceBEq, Int.reduceBNe, Nat.reduceMul, Int.reduceAdd, Int.reduceMul, Int.reduceSub, Int.reduceEq, Int.reduceNe]
      refine WF_pure (cNamed1 done x false (by omega)) rfl ?_
      simp (maxSteps := 400000) only [go_sem, ↓reduceIte, reduceCtorEq, Nat.reduceEqDiff, Nat.reduceAdd, Nat.reduceLT, Nat.reduceLeDiff, Nat.reduceSub, Int.reduceToNat, Int.reduceLE, Int.reduceLT, Int.reduceNeg, Int.reduceBEq, Int.reduceBNe, Nat.reduceMul, Int.reduceAdd, Int.reduceMul, Int.reduceSub, Int.reduceEq, Int.reduceNe]
      refine WF_must (fun h5 => ?_) fun h5 => ?_
      rotate_left
      · simp (maxSteps := 400000) only [go_sem, ↓reduceIte, reduceCtorEq, Nat.reduceEqDiff, Nat.reduceAdd, Nat.reduceLT, Nat.reduceLeDiff, Nat.reduceSub, Int.reduceToNat, Int.reduceLE, Int.reduceLT, Int.reduceNeg, Int.reduceBEq, Int.reduceBNe, Nat.reduceMul, Int.reduceAdd, Int.reduceMul, Int.reduceSub, Int.reduceEq, Int.reduceNe]
        refine leave_rec rfl ?_
        have h5' : namedErr (done.map (·.name)) x.name ≠ 0 := by simpa using h5
        simp (maxSteps := 400000) only [triple, fin _ (by rw [waxErr, if_neg h5']) h5', go_sem, ↓reduceIte, reduceCtorEq, Nat.reduceEqDiff, Nat.reduceAdd, Nat.reduceLT, Nat.reduceLeDiff, Nat.reduceSub, Int.reduceToNat, Int.reduceLE, Int.reduceLT, Int.reduceNeg, Int.reduceBEq, Int.reduceBNe, Nat.reduceMul, Int.reduceAdd, Int.reduceMul, Int.reduceSub, Int.reduceEq, Int.reduceNe]
      have h5' : namedErr (done.map (·.name)) x.name = 0 := by simpa using h5
      simp (maxSteps := 400000) only [go_sem, ↓reduceIte, reduceCtorEq, Nat.reduceEqDiff, Nat.reduceAdd, Nat.reduceLT, Nat.reduceLeDiff, Nat.reduceSub, Int.reduceToNat, Int.reduceLE, Int.reduceLT, Int.reduceNeg, Int.reduceBEq, Int.reduceBNe, Nat.reduceMul, Int.reduceAdd, Int.reduceMul, Int.reduceSub, Int.reduceEq, Int.reduceNe]
      refine WF_pure (cOut 0 50 [_] true (by simp)) rfl ?_
      simp (maxSteps := 400000) only [List.any_cons, List.any_nil, Bool.or_false, Bool.not_not, go_sem, ↓reduceIte, reduceCtorEq, Nat.reduceEqDiff, Nat.reduceAdd, Nat.reduceLT, Nat.reduceLeDiff, Nat.reduceSub, Int.reduceToNat, Int.reduceLE, Int.reduceLT, Int.reduceNeg, Int.reduceBEq, Int.reduceBNe, Nat.reduceMul, Int.reduceAdd, Int.reduceMul, Int.reduceSub, Int.reduceEq, Int.reduceNe]
      cases h6 : gIn x.chill 0 50
      · simp (maxSteps := 400000) only [go_sem, ↓reduceIte, reduceCtorEq, Nat.reduceEqDiff, Nat.reduceAdd, Nat.reduceLT, Nat.reduceLeDiff, Nat.reduceSub, Int.reduceToNat, Int.reduceLE, Int.reduceLT, Int.reduceNeg, Int.reduceBEq, Int.reduceBNe, Nat.reduceMul, Int.reduceAdd, Int.reduceMul, Int.reduceSub, Int.reduceEq, Int.reduceNe]
        refine WF_must (fun h => (by cases h)) fun _ => ?_
        simp (maxSteps := 400000) only [go_sem, ↓reduceIte, reduceCtorEq, Nat.reduceEqDiff, Nat.reduceAdd, Nat.reduceLT, Nat.reduceLeDiff, Nat.reduceSub, Int.reduceToNat, Int.reduceLE, Int.reduceLT, Int.reduceNeg, Int.reduceBEq, Int.reduceBNe, Nat.reduceMul, Int.reduceAdd, Int.reduceMul, Int.reduceSub, Int.reduceEq, Int.reduceNe]
        refine leave_rec rfl ?_
        simp (maxSteps := 400000) only [triple, fin 7 (by simp [waxErr, h5', h6]) (by decide), go_sem, ↓reduceIte, reduceCtorEq, Nat.reduceEqDiff, Nat.reduceAdd, Nat.reduceLT, Nat.reduceLeDiff, Nat.reduceSub, Int.reduceToNat, Int.reduceLE, Int.reduceLT, Int.reduceNeg, Int.reduceBEq, Int.reduceBNe, Nat.reduceMul, Int.reduceAdd, Int.reduceMul, Int.reduceSub, Int.reduceEq, Int.reduceNe]
      simp (maxSteps := 400000) only [go_sem, ↓reduceIte, reduceCtorEq, Nat.reduceEqDiff, Nat.reduceAdd, Nat.reduceLT, Nat.reduceLeDiff, Nat.reduceSub, Int.reduceToNat, Int.reduceLE, Int.reduceLT, Int.reduceNeg, Int.reduceBEq, Int.reduceBNe, Nat.reduceMul, Int.reduceAdd, Int.reduceMul, Int.reduceSub, Int.reduceEq, Int.reduceNe]
      refine WF_pure (cOut 1 300 [_, _] true (by simp)) rfl ?_
      simp (maxSteps := 400000) only [List.any_cons, List.any_nil, Bool.or_false, ← Bool.not_and, Bool.not_not, go_sem, ↓reduceIte, reduceCtorEq, Nat.reduceEqDiff, Nat.reduceAdd, Nat.reduceLT, Nat.reduceLeDiff, Nat.reduceSub, Int.reduceToNat, Int.reduceLE, Int.reduceLT, Int.reduceNeg, Int.reduceBEq, Int.reduceBNe, Nat.reduceMul, Int.reduceAdd, Int.reduceMul, Int.reduceSub, Int.reduceEq, Int.reduceNe]
      refine WF_must (fun h7 => ?_) fun h7 => ?_
      rotate_left
      · simp (maxSteps := 400000) only [go_sem, ↓reduceIte, reduceCtorEq, Nat.reduceEqDiff, Nat.reduceAdd, Nat.reduceLT, Nat.reduceLeDiff, Nat.reduceSub, Int.reduceToNat, Int.reduceLE, Int.reduceLT, Int.reduceNeg, Int.reduceBEq, Int.reduceBNe, Nat.reduceMul, Int.reduceAdd, Int.reduceMul, Int.reduceSub, Int.reduceEq, Int.reduceNe]
        refine leave_rec rfl ?_
        simp (maxSteps := 400000) only [triple, fin 7 (by simp [waxErr, h5', h6, inS, h7]) (by decide), go_sem, ↓reduceIte, reduceCtorEq, Nat.reduceEqDiff, Nat.reduceAdd, Nat.reduceLT, Nat.reduceLeDiff, Nat.reduceSub, Int.reduceToNat, Int.reduceLE, Int.reduceLT, Int.reduceNeg, Int.reduceBEq, Int.reduceBNe, Nat.reduceMul, Int.reduceAdd, Int.reduceMul, Int.reduceSub, Int.reduceEq, Int.reduceNe]
      simp (maxSteps := 400000) only [go_sem, ↓reduceIte, reduceCtorEq, Nat.reduceEqDiff, Nat.reduceAdd, Nat.reduceLT, Nat.reduceLeDiff, Nat.reduceSub, Int.reduceToNat, Int.reduceLE, Int.reduceLT, Int.reduceNeg, Int.reduceBEq, Int.reduceBNe, Nat.reduceMul, Int.reduceAdd, Int.reduceMul, Int.reduceSub, Int.reduceEq, Int.reduceNe]
      refine WF_pure (cOut 1 1000 [_, _] true (by simp)) rfl ?_
      simp (maxSteps := 400000) only [List.any_cons, List.any_nil, Bool.or_false, ← Bool.not_and, Bool.not_not, go_sem, ↓reduceIte, reduceCtorEq, Nat.reduceEqDiff, Nat.reduceAdd, Nat.reduceLT, Nat.reduceLeDiff, Nat.reduceSub, Int.reduceToNat, Int.reduceLE, Int.reduceLT, Int.reduceNeg, Int.reduceBEq, Int.reduceBNe, Nat.reduceMul, Int.reduceAdd, Int.reduceMul, Int.reduceSub, Int.reduceEq, Int.reduceNe]
      cases h8 : (gIn x.rise.lo 1 1000 && gIn x.rise.hi 1 1000)
      · simp (maxSteps := 400000) only [go_sem, ↓reduceIte, reduceCtorEq, Nat.reduceEqDiff, Nat.reduceAdd, Nat.reduceLT, Nat.reduceLeDiff, Nat.reduceSub, Int.reduceToNat, Int.reduceLE, Int.reduceLT, Int.reduceNeg, Int.reduceBEq, Int.reduceBNe, Nat.reduceMul, Int.reduceAdd, Int.reduceMul, Int.reduceSub, Int.reduceEq, Int.reduceNe]
        refine WF_must (fun h => (by cases h)) fun _ => ?_
        simp (maxSteps := 400000) only [go_sem, ↓reduceIte, reduceCtorEq, Nat.reduceEqDiff, Nat.reduceAdd, Nat.reduceLT, Nat.reduceLeDiff, Nat.reduceSub, Int.reduceToNat, Int.reduceLE, Int.reduceLT, Int.reduceNeg, Int.reduceBEq, Int.reduceBNe, Nat.reduceMul, Int.reduceAdd, Int.reduceMul, Int.reduceSub, Int.reduceEq, Int.reduceNe]
        refine leave_rec rfl ?_
        simp (maxSteps := 400000) only [triple, fin 7 (by simp [waxErr, h5', h6, inS, h7, h8]) (by decide), go_sem, ↓reduceIte, reduceCtorEq, Nat.reduceEqDiff, Nat.reduceAdd, Nat.reduceLT, Nat.reduceLeDiff, Nat.reduceSub, Int.reduceToNat, Int.reduceLE, Int.reduceLT, Int.reduceNeg, Int.reduceBEq, Int.reduceBNe, Nat.reduceMul, Int.reduceAdd, Int.reduceMul, Int.reduceSub, Int.reduceEq, Int.reduceNe]
      simp (maxSteps := 400000) only [go_sem, ↓reduceIte, reduceCtorEq, Nat.reduceEqDiff, Nat.reduceAdd, Nat.reduceLT, Nat.reduceLeDiff, Nat.reduceSub, Int.reduceToNat, Int.reduceLE, Int.reduceLT, Int.reduceNeg, Int.reduceBEq, Int.reduceBNe, Nat.reduceMul, Int.reduceAdd, Int.reduceMul, Int.reduceSub, Int.reduceEq, Int.reduceNe]
      refine WF_pure (cOut 1 2000 [_, _] true (by simp)) rfl ?_
      simp (maxSteps := 400000) only [List.any_cons, List.any_nil, Bool.or_false, ← Bool.not_and, Bool.not_not, go_sem, ↓reduceIte, reduceCtorEq, Nat.reduceEqDiff, Nat.reduceAdd, Nat.reduceLT, Nat.reduceLeDiff, Nat.reduceSub, Int.reduceToNat, Int.reduceLE, Int.reduceLT, Int.reduceNeg, Int.reduceBEq, Int.reduceBNe, Nat.reduceMul, Int.reduceAdd, Int.reduceMul, Int.reduceSub, Int.reduceEq, Int.reduceNe]
      refine WF_must (fun h9 => ?_) fun h9 => ?_
      rotate_left
      · simp (maxSteps := 400000) only [go_sem, ↓reduceIte, reduceCtorEq, Nat.reduceEqDiff, Nat.reduceAdd, Nat.reduceLT, Nat.reduceLeDiff, Nat.reduceSub, Int.reduceToNat, Int.reduceLE, Int.reduceLT, Int.reduceNeg, Int.reduceBEq, Int.reduceBNe, Nat.reduceMul, Int.reduceAdd, Int.reduceMul, Int.reduceSub, Int.reduceEq, Int.reduceNe]
        refine leave_rec rfl ?_
        simp (maxSteps := 400000) only [triple, fin 7 (by simp [waxErr, h5', h6, inS, h7, h8, h9]) (by decide), go_sem, ↓reduceIte, reduceCtorEq, Nat.reduceEqDiff, Nat.reduceAdd, Nat.reduceLT, Nat.reduceLeDiff, Nat.reduceSub, Int.reduceToNat, Int.reduceLE, Int.reduceLT, Int.reduceNeg, Int.reduceBEq, Int.reduceBNe, Nat.reduceMul, Int.reduceAdd, Int.reduceMul, Int.reduceSub, Int.reduceEq, Int.reduceNe]
      simp (maxSteps := 400000) only [go_sem, ↓reduceIte, reduceCtorEq, Nat.reduceEqDiff, Nat.reduceAdd, Nat.reduceLT, Nat.reduceLeDiff, Nat.reduceSub, Int.reduceToNat, Int.reduceLE, Int.reduceLT, Int.reduceNeg, Int.reduceBEq, Int.reduceBNe, Nat.reduceMul, Int.reduceAdd, Int.reduceMul, Int.reduceSub, Int.reduceEq, Int.reduceNe]
      refine WF_pure (cTurned [x.flow, x.rise, x.spread] true (by simp)) rfl ?_
      simp (maxSteps := 400000) only [List.any_cons, List.any_nil, Bool.or_false, go_sem, ↓reduceIte, reduceCtorEq, Nat.reduceEqDiff, Nat.reduceAdd, Nat.reduceLT, Nat.reduceLeDiff, Nat.reduceSub, Int.reduceToNat, Int.reduceLE, Int.reduceLT, Int.reduceNeg, Int.reduceBEq, Int.reduceBNe, Nat.reduceMul, Int.reduceAdd, Int.reduceMul, Int.reduceSub, Int.reduceEq, Int.reduceNe]
      refine WF_must (fun h10 => ?_) fun h10 => ?_
      rotate_left
      · simp (maxSteps := 400000) only [go_sem, ↓reduceIte, reduceCtorEq, Nat.reduceEqDiff, Nat.reduceAdd, Nat.reduceLT, Nat.reduceLeDiff, Nat.reduceSub, Int.reduceToNat, Int.reduceLE, Int.reduceLT, Int.reduceNeg, Int.reduceBEq, Int.reduceBNe, Nat.reduceMul, Int.reduceAdd, Int.reduceMul, Int.reduceSub, Int.reduceEq, Int.reduceNe]
        refine leave_rec rfl ?_
        simp (maxSteps := 400000) only [triple, fin 2 (by simp only [Bool.not_eq_false'] at h10; simp only [waxErr, h5', h6, inS, h7, h8, h9, turnedS, h10, Bool.and_self, if_true]) (by decide), go_sem, ↓reduceIte, reduceCtorEq, Nat.reduceEqDiff, Nat.reduceAdd, Nat.reduceLT, Nat.reduceLeDiff, Nat.reduceSub, Int.reduceToNat, Int.reduceLE, Int.reduceLT, Int.reduceNeg, Int.reduceBEq, Int.reduceBNe, Nat.reduceMul, Int.reduceAdd, Int.reduceMul, Int.reduceSub, Int.reduceEq, Int.reduceNe]
      simp (maxSteps := 400000) only [go_sem, ↓reduceIte, reduceCtorEq, Nat.reduceEqDiff, Nat.reduceAdd, Nat.reduceLT, Nat.reduceLeDiff, Nat.reduceSub, Int.reduceToNat, Int.reduceLE, Int.reduceLT, Int.reduceNeg, Int.reduceBEq, Int.reduceBNe, Nat.reduceMul, Int.reduceAdd, Int.reduceMul, Int.reduceSub, Int.reduceEq, Int.reduceNe]
      refine WQ_headA (done ++ [x], r) ⟨by simp [e1], ?_⟩ (by simp) ?_
      · rw [hE, if_pos]
        simp only [Bool.not_eq_true'] at h10
        simp only [waxErr, h5', h6, inS, h7, h8, h9, turnedS, h10, Bool.and_self, if_true, Bool.false_eq_true, if_false]
      · simp (maxSteps := 400000) only [hnx, h5', go_sem, ↓reduceIte, reduceCtorEq, Nat.reduceEqDiff, Nat.reduceAdd, Nat.reduceLT, Nat.reduceLeDiff, Nat.reduceSub, Int.reduceToNat, Int.reduceLE, Int.reduceLT, Int.reduceNeg, Int.reduceBEq, Int.reduceBNe, Nat.reduceMul, Int.reduceAdd, Int.reduceMul, Int.reduceSub, Int.reduceEq, Int.reduceNe]
    | nil =>
      have hlt : ¬ ((done.length : Int) < (s.waxes.length : Int)) := by rw [e1]; simp
      simp (maxSteps := 400000) only [hlt, decide_false, go_sem, ↓reduceIte, reduceCtorEq, Nat.reduceEqDiff, Nat.reduceAdd, Nat.reduceLT, Nat.reduceLeDiff, Nat.reduceSub, Int.reduceToNat, Int.reduceLE, Int.reduceLT, Int.reduceNeg, Int.reduceBEq, Int.reduceBNe, Nat.reduceMul, Int.reduceAdd, Int.reduceMul, Int.reduceSub, Int.reduceEq, Int.reduceNe]
      refine leave_no ?_
      have hT : checkTail s none = (0, 0, 0) := by
        simp only [checkTail]
        rw [e2]; rfl
      simp (maxSteps := 400000) only [triple, hT, go_sem, ↓reduceIte, reduceCtorEq, Nat.reduceEqDiff, Nat.reduceAdd, Nat.reduceLT, Nat.reduceLeDiff, Nat.reduceSub, Int.reduceToNat, Int.reduceLE, Int.reduceLT, Int.reduceNeg, Int.reduceBEq, Int.reduceBNe, Nat.reduceMul, Int.reduceAdd, Int.reduceMul, Int.reduceSub, Int.reduceEq, Int.reduceNe]

end Abs
end Go.Proofs.Ytdgmmijimclooaa
