/-
  CONTRACTS: what is checked of a shop, in the program and in the reference: both come to 'checkSpec'.
-/
import Derived.Test.YtdgmmijimclooaaWkName
namespace Go.Proofs.Ytdgmmijimclooaa
namespace Abs
set_option linter.unusedSimpArgs false
set_option maxRecDepth 4000

/-! numbers out of a range, ranges turned -/
theorem cOut1 (lo hi n : Int) : PCall Try.prog 66 [.int .i64 n, .ptr 1 [.int .i64 lo] 0 0, .ptr 1 [.int .i64 hi] 0 0] (.bool (!gIn n lo hi)) := by
  refine pcall_of_wp draws (fn := Try.f66) (n := 13) (rs := [.tmp 4]) (by kernel_rfl) rfl rfl rfl ok66 (Nat.le_of_ble_eq_true rfl) ?_
  simp (maxSteps := 400000) only [go_sem, ↓reduceIte, reduceCtorEq, Nat.reduceEqDiff, Nat.reduceAdd, Nat.reduceLT, Nat.reduceLeDiff, Nat.reduceSub, Int.reduceToNat, Int.reduceLE, Int.reduceLT, Int.reduceNeg, Int.reduceBEq, Int.reduceBNe, Nat.reduceMul, Int.reduceAdd, Int.reduceMul, Int.reduceSub, Int.reduceEq, Int.reduceNe]
  refine WB_split (fun hb => ?_) (fun hb => ?_) <;> simp (maxSteps := 400000) only [hb, go_sem, ↓reduceIte, reduceCtorEq, Nat.reduceEqDiff, Nat.reduceAdd, Nat.reduceLT, Nat.reduceLeDiff, Nat.reduceSub, Int.reduceToNat, Int.reduceLE, Int.reduceLT, Int.reduceNeg, Int.reduceBEq, Int.reduceBNe, Nat.reduceMul, Int.reduceAdd, Int.reduceMul, Int.reduceSub, Int.reduceEq, Int.reduceNe] <;> simp_all [gIn]
  rw [← decide_not]; congr 1; simp
theorem cOut (lo hi : Int) (l : List Int) (b : Bool) (hl : l.length < 1000000000) : PCall Try.prog 44 [.int .i64 lo, .int .i64 hi, .slice 1 (l.map intPV) b] (.bool (l.any fun n => !gIn n lo hi)) := by
  refine pcall_of_wp draws (fn := Try.f44) (n := 10) (rs := [.tmp 6]) (by kernel_rfl) rfl rfl rfl ok44 (Nat.le_of_ble_eq_true rfl) ?_
  simp (maxSteps := 400000) only [go_sem, ↓reduceIte, reduceCtorEq, Nat.reduceEqDiff, Nat.reduceAdd, Nat.reduceLT, Nat.reduceLeDiff, Nat.reduceSub, Int.reduceToNat, Int.reduceLE, Int.reduceLT, Int.reduceNeg, Int.reduceBEq, Int.reduceBNe, Nat.reduceMul, Int.reduceAdd, Int.reduceMul, Int.reduceSub, Int.reduceEq, Int.reduceNe]
  refine WF_frz (cContainsFunc0 (fv := .func (.func 66) [] [.ptr 1 [.int .i64 lo] 0 0, .ptr 1 [.int .i64 hi] 0 0]) l (fun n => !gIn n lo hi) b 1 rfl hl fun n _ => ⟨_, _, _, rfl, cOut1 lo hi n⟩) ?_ (.bool _) ?_
  · simp (maxSteps := 400000) only [go_sem, ↓reduceIte, reduceCtorEq, Nat.reduceEqDiff, Nat.reduceAdd, Nat.reduceLT, Nat.reduceLeDiff, Nat.reduceSub, Int.reduceToNat, Int.reduceLE, Int.reduceLT, Int.reduceNeg, Int.reduceBEq, Int.reduceBNe, Nat.reduceMul, Int.reduceAdd, Int.reduceMul, Int.reduceSub, Int.reduceEq, Int.reduceNe]
  · simp (maxSteps := 400000) only [go_sem, ↓reduceIte, reduceCtorEq, Nat.reduceEqDiff, Nat.reduceAdd, Nat.reduceLT, Nat.reduceLeDiff, Nat.reduceSub, Int.reduceToNat, Int.reduceLE, Int.reduceLT, Int.reduceNeg, Int.reduceBEq, Int.reduceBNe, Nat.reduceMul, Int.reduceAdd, Int.reduceMul, Int.reduceSub, Int.reduceEq, Int.reduceNe]
theorem cOutI (lo hi : Int) (l : List Int) (b : Bool) (xs : List PV) (hx : xs = l.map intPV) (hl : l.length < 1000000000) : PCall Try.prog 44 [.int .i64 lo, .int .i64 hi, .slice 1 xs b] (.bool (l.any fun n => !gIn n lo hi)) := by
  subst hx; exact cOut lo hi l b hl
theorem cTurned1 (s : Span) : PCall Try.prog 68 [s.pv] (.bool (decide (s.hi < s.lo))) := by
  refine pcall_of_wp draws (fn := Try.f68) (n := 8) (rs := [.tmp 2]) (by kernel_rfl) rfl rfl rfl ok68 (Nat.le_of_ble_eq_true rfl) ?_
  simp (maxSteps := 400000) only [go_sem, ↓reduceIte, reduceCtorEq, Nat.reduceEqDiff, Nat.reduceAdd, Nat.reduceLT, Nat.reduceLeDiff, Nat.reduceSub, Int.reduceToNat, Int.reduceLE, Int.reduceLT, Int.reduceNeg, Int.reduceBEq, Int.reduceBNe, Nat.reduceMul, Int.reduceAdd, Int.reduceMul, Int.reduceSub, Int.reduceEq, Int.reduceNe]
theorem cTurned (l : List Span) (b : Bool) (hl : l.length < 1000000000) : PCall Try.prog 45 [.slice 2 (l.map Span.pv) b] (.bool (l.any fun s => decide (s.hi < s.lo))) := by
  refine pcall_of_wp draws (fn := Try.f45) (n := 5) (rs := [.tmp 2]) (by kernel_rfl) rfl rfl rfl ok45 (Nat.le_of_ble_eq_true rfl) ?_
  simp (maxSteps := 400000) only [go_sem, ↓reduceIte, reduceCtorEq, Nat.reduceEqDiff, Nat.reduceAdd, Nat.reduceLT, Nat.reduceLeDiff, Nat.reduceSub, Int.reduceToNat, Int.reduceLE, Int.reduceLT, Int.reduceNeg, Int.reduceBEq, Int.reduceBNe, Nat.reduceMul, Int.reduceAdd, Int.reduceMul, Int.reduceSub, Int.reduceEq, Int.reduceNe]
  refine WF_pure (cContainsFunc1 (fv := .func (.func 68) [] []) l (fun s => decide (s.hi < s.lo)) b 2 rfl hl fun s _ => ⟨_, _, _, rfl, cTurned1 s⟩) rfl ?_
  simp (maxSteps := 400000) only [go_sem, ↓reduceIte, reduceCtorEq, Nat.reduceEqDiff, Nat.reduceAdd, Nat.reduceLT, Nat.reduceLeDiff, Nat.reduceSub, Int.reduceToNat, Int.reduceLE, Int.reduceLT, Int.reduceNeg, Int.reduceBEq, Int.reduceBNe, Nat.reduceMul, Int.reduceAdd, Int.reduceMul, Int.reduceSub, Int.reduceEq, Int.reduceNe]

/-! names among those before -/
def namedErr (before : List ByteArray) (s : ByteArray) : Int := if nameOk s = true then (if before.any (fun t => t == s) = true then 5 else 0) else 6
theorem cName0 (x : Wick) : PCall Try.prog 47 [x.pv] (.str x.name) := by
  refine pcall_of_wp draws (fn := Try.f47) (n := 5) (rs := [.tmp 2]) (by kernel_rfl) rfl rfl rfl ok47 (Nat.le_of_ble_eq_true rfl) ?_
  simp (maxSteps := 400000) only [go_sem, ↓reduceIte, reduceCtorEq, Nat.reduceEqDiff, Nat.reduceAdd, Nat.reduceLT, Nat.reduceLeDiff, Nat.reduceSub, Int.reduceToNat, Int.reduceLE, Int.reduceLT, Int.reduceNeg, Int.reduceBEq, Int.reduceBNe, Nat.reduceMul, Int.reduceAdd, Int.reduceMul, Int.reduceSub, Int.reduceEq, Int.reduceNe]
theorem cSame0 (s : ByteArray) (x : Wick) : PCall Try.prog 71 [x.pv, .ptr 1 [.func (.func 47) [] []] 0 0, .ptr 1 [.str s] 0 0] (.bool (x.name == s)) := by
  refine pcall_of_wp draws (fn := Try.f71) (n := 10) (rs := [.tmp 4]) (by kernel_rfl) rfl rfl rfl ok71 (Nat.le_of_ble_eq_true rfl) ?_
  simp (maxSteps := 400000) only [go_sem, ↓reduceIte, reduceCtorEq, Nat.reduceEqDiff, Nat.reduceAdd, Nat.reduceLT, Nat.reduceLeDiff, Nat.reduceSub, Int.reduceToNat, Int.reduceLE, Int.reduceLT, Int.reduceNeg, Int.reduceBEq, Int.reduceBNe, Nat.reduceMul, Int.reduceAdd, Int.reduceMul, Int.reduceSub, Int.reduceEq, Int.reduceNe]
  refine WDQ_pure (cName0 x) rfl ?_
  simp (maxSteps := 400000) only [go_sem, ↓reduceIte, reduceCtorEq, Nat.reduceEqDiff, Nat.reduceAdd, Nat.reduceLT, Nat.reduceLeDiff, Nat.reduceSub, Int.reduceToNat, Int.reduceLE, Int.reduceLT, Int.reduceNeg, Int.reduceBEq, Int.reduceBNe, Nat.reduceMul, Int.reduceAdd, Int.reduceMul, Int.reduceSub, Int.reduceEq, Int.reduceNe]
theorem cNamed0 (l : List Wick) (x : Wick) (b : Bool) (hl : l.length < 1000000) : PCall Try.prog 46 [.slice 4 ((l ++ [x]).map Wick.pv) b, .func (.func 47) [] []] (.int .i64 (namedErr (l.map (·.name)) x.name)) := by
  have hw : IntKind.i64.wrap ((((l ++ [x]).length : Nat) : Int) - 1) = ((l.length : Nat) : Int) := by
    rw [wrap_small (by simp <;> omega) (by simp [room] <;> omega)]; simp
  have hx : (l ++ [x])[l.length]? = some x := by simp
  have hlt : ((l.length : Nat) : Int) < (((l ++ [x]).length : Nat) : Int) := by simp <;> omega
  have hle : ((l.length : Nat) : Int) ≤ (((l ++ [x]).length : Nat) : Int) := by omega
  have htk : ((l ++ [x]).map Wick.pv).take l.length = l.map Wick.pv := by rw [List.map_append, List.take_left' (by simp)]
  have hfl : (l.length == (l ++ [x]).length) = false := by simp
  refine pcall_of_wp draws (fn := Try.f46) (n := 26) (rs := [.tmp 4]) (by kernel_rfl) rfl rfl rfl ok46 (Nat.le_of_ble_eq_true rfl) ?_
  simp (maxSteps := 400000) only [hw, hx, hlt, go_sem, ↓reduceIte, reduceCtorEq, Nat.reduceEqDiff, Nat.reduceAdd, Nat.reduceLT, Nat.reduceLeDiff, Nat.reduceSub, Int.reduceToNat, Int.reduceLE, Int.reduceLT, Int.reduceNeg, Int.reduceBEq, Int.reduceBNe, Nat.reduceMul, Int.reduceAdd, Int.reduceMul, Int.reduceSub, Int.reduceEq, Int.reduceNe]
  refine WDQ_pure (cName0 x) rfl ?_
  simp (maxSteps := 400000) only [go_sem, ↓reduceIte, reduceCtorEq, Nat.reduceEqDiff, Nat.reduceAdd, Nat.reduceLT, Nat.reduceLeDiff, Nat.reduceSub, Int.reduceToNat, Int.reduceLE, Int.reduceLT, Int.reduceNeg, Int.reduceBEq, Int.reduceBNe, Nat.reduceMul, Int.reduceAdd, Int.reduceMul, Int.reduceSub, Int.reduceEq, Int.reduceNe]
  refine WF_pure (cWaxName x.name) rfl ?_
  simp (maxSteps := 400000) only [go_sem, ↓reduceIte, reduceCtorEq, Nat.reduceEqDiff, Nat.reduceAdd, Nat.reduceLT, Nat.reduceLeDiff, Nat.reduceSub, Int.reduceToNat, Int.reduceLE, Int.reduceLT, Int.reduceNeg, Int.reduceBEq, Int.reduceBNe, Nat.reduceMul, Int.reduceAdd, Int.reduceMul, Int.reduceSub, Int.reduceEq, Int.reduceNe]
  cases hn : nameOk x.name
  · simp (maxSteps := 400000) only [go_sem, ↓reduceIte, reduceCtorEq, Nat.reduceEqDiff, Nat.reduceAdd, Nat.reduceLT, Nat.reduceLeDiff, Nat.reduceSub, Int.reduceToNat, Int.reduceLE, Int.reduceLT, Int.reduceNeg, Int.reduceBEq, Int.reduceBNe, Nat.reduceMul, Int.reduceAdd, Int.reduceMul, Int.reduceSub, Int.reduceEq, Int.reduceNe]
    simp [namedErr, hn]
  · simp (maxSteps := 400000) only [hle, Option.getD_none, Option.getD_some, htk, hfl, go_sem, ↓reduceIte, reduceCtorEq, Nat.reduceEqDiff, Nat.reduceAdd, Nat.reduceLT, Nat.reduceLeDiff, Nat.reduceSub, Int.reduceToNat, Int.reduceLE, Int.reduceLT, Int.reduceNeg, Int.reduceBEq, Int.reduceBNe, Nat.reduceMul, Int.reduceAdd, Int.reduceMul, Int.reduceSub, Int.reduceEq, Int.reduceNe]
    refine WF_frz (cContainsFunc2 (fv := .func (.func 71) [] [.ptr 1 [.func (.func 47) [] []] 0 0, .ptr 1 [.str x.name] 0 0]) l (fun y => y.name == x.name) false 4 rfl (by omega) fun y _ => ⟨_, _, _, rfl, cSame0 x.name y⟩) ?_ (.bool _) ?_
    · simp (maxSteps := 400000) only [go_sem, ↓reduceIte, reduceCtorEq, Nat.reduceEqDiff, Nat.reduceAdd, Nat.reduceLT, Nat.reduceLeDiff, Nat.reduceSub, Int.reduceToNat, Int.reduceLE, Int.reduceLT, Int.reduceNeg, Int.reduceBEq, Int.reduceBNe, Nat.reduceMul, Int.reduceAdd, Int.reduceMul, Int.reduceSub, Int.reduceEq, Int.reduceNe]
    simp (maxSteps := 400000) only [go_sem, ↓reduceIte, reduceCtorEq, Nat.reduceEqDiff, Nat.reduceAdd, Nat.reduceLT, Nat.reduceLeDiff, Nat.reduceSub, Int.reduceToNat, Int.reduceLE, Int.reduceLT, Int.reduceNeg, Int.reduceBEq, Int.reduceBNe, Nat.reduceMul, Int.reduceAdd, Int.reduceMul, Int.reduceSub, Int.reduceEq, Int.reduceNe]
    refine WB_split (fun hb => ?_) (fun hb => ?_) <;> simp (maxSteps := 400000) only [hb, go_sem, ↓reduceIte, reduceCtorEq, Nat.reduceEqDiff, Nat.reduceAdd, Nat.reduceLT, Nat.reduceLeDiff, Nat.reduceSub, Int.reduceToNat, Int.reduceLE, Int.reduceLT, Int.reduceNeg, Int.reduceBEq, Int.reduceBNe, Nat.reduceMul, Int.reduceAdd, Int.reduceMul, Int.reduceSub, Int.reduceEq, Int.reduceNe]
    · simp only [namedErr, hn, List.any_map, Function.comp_def, hb, if_true]
    · simp only [namedErr, hn, List.any_map, Function.comp_def, hb, if_true, Bool.false_eq_true, if_false]
theorem cName1 (x : Wax) : PCall Try.prog 49 [x.pv] (.str x.name) := by
  refine pcall_of_wp draws (fn := Try.f49) (n := 5) (rs := [.tmp 2]) (by kernel_rfl) rfl rfl rfl ok49 (Nat.le_of_ble_eq_true rfl) ?_
  simp (maxSteps := 400000) only [go_sem, ↓reduceIte, reduceCtorEq, Nat.reduceEqDiff, Nat.reduceAdd, Nat.reduceLT, Nat.reduceLeDiff, Nat.reduceSub, Int.reduceToNat, Int.reduceLE, Int.reduceLT, Int.reduceNeg, Int.reduceBEq, Int.reduceBNe, Nat.reduceMul, Int.reduceAdd, Int.reduceMul, Int.reduceSub, Int.reduceEq, Int.reduceNe]
theorem cSame1 (s : ByteArray) (x : Wax) : PCall Try.prog 73 [x.pv, .ptr 1 [.func (.func 49) [] []] 0 0, .ptr 1 [.str s] 0 0] (.bool (x.name == s)) := by
  refine pcall_of_wp draws (fn := Try.f73) (n := 10) (rs := [.tmp 4]) (by kernel_rfl) rfl rfl rfl ok73 (Nat.le_of_ble_eq_true rfl) ?_
  simp (maxSteps := 400000) only [go_sem, ↓reduceIte, reduceCtorEq, Nat.reduceEqDiff, Nat.reduceAdd, Nat.reduceLT, Nat.reduceLeDiff, Nat.reduceSub, Int.reduceToNat, Int.reduceLE, Int.reduceLT, Int.reduceNeg, Int.reduceBEq, Int.reduceBNe, Nat.reduceMul, Int.reduceAdd, Int.reduceMul, Int.reduceSub, Int.reduceEq, Int.reduceNe]
  refine WDQ_pure (cName1 x) rfl ?_
  simp (maxSteps := 400000) only [go_sem, ↓reduceIte, reduceCtorEq, Nat.reduceEqDiff, Nat.reduceAdd, Nat.reduceLT, Nat.reduceLeDiff, Nat.reduceSub, Int.reduceToNat, Int.reduceLE, Int.reduceLT, Int.reduceNeg, Int.reduceBEq, Int.reduceBNe, Nat.reduceMul, Int.reduceAdd, Int.reduceMul, Int.reduceSub, Int.reduceEq, Int.reduceNe]
theorem cNamed1 (l : List Wax) (x : Wax) (b : Bool) (hl : l.length < 1000000) : PCall Try.prog 48 [.slice 8 ((l ++ [x]).map Wax.pv) b, .func (.func 49) [] []] (.int .i64 (namedErr (l.map (·.name)) x.name)) := by
  have hw : IntKind.i64.wrap ((((l ++ [x]).length : Nat) : Int) - 1) = ((l.length : Nat) : Int) := by
    rw [wrap_small (by simp <;> omega) (by simp [room] <;> omega)]; simp
  have hx : (l ++ [x])[l.length]? = some x := by simp
  have hlt : ((l.length : Nat) : Int) < (((l ++ [x]).length : Nat) : Int) := by simp <;> omega
  have hle : ((l.length : Nat) : Int) ≤ (((l ++ [x]).length : Nat) : Int) := by omega
  have htk : ((l ++ [x]).map Wax.pv).take l.length = l.map Wax.pv := by rw [List.map_append, List.take_left' (by simp)]
  have hfl : (l.length == (l ++ [x]).length) = false := by simp
  refine pcall_of_wp draws (fn := Try.f48) (n := 26) (rs := [.tmp 4]) (by kernel_rfl) rfl rfl rfl ok48 (Nat.le_of_ble_eq_true rfl) ?_
  simp (maxSteps := 400000) only [hw, hx, hlt, go_sem, ↓reduceIte, reduceCtorEq, Nat.reduceEqDiff, Nat.reduceAdd, Nat.reduceLT, Nat.reduceLeDiff, Nat.reduceSub, Int.reduceToNat, Int.reduceLE, Int.reduceLT, Int.reduceNeg, Int.reduceBEq, Int.reduceBNe, Nat.reduceMul, Int.reduceAdd, Int.reduceMul, Int.reduceSub, Int.reduceEq, Int.reduceNe]
  refine WDQ_pure (cName1 x) rfl ?_
  simp (maxSteps := 400000) only [go_sem, ↓reduceIte, reduceCtorEq, Nat.reduceEqDiff, Nat.reduceAdd, Nat.reduceLT, Nat.reduceLeDiff, Nat.reduceSub, Int.reduceToNat, Int.reduceLE, Int.reduceLT, Int.reduceNeg, Int.reduceBEq, Int.reduceBNe, Nat.reduceMul, Int.reduceAdd, Int.reduceMul, Int.reduceSub, Int.reduceEq, Int.reduceNe]
  refine WF_pure (cWaxName x.name) rfl ?_
  simp (maxSteps := 400000) only [go_sem, ↓reduceIte, reduceCtorEq, Nat.reduceEqDiff, Nat.reduceAdd, Nat.reduceLT, Nat.reduceLeDiff, Nat.reduceSub, Int.reduceToNat, Int.reduceLE, Int.reduceLT, Int.reduceNeg, Int.reduceBEq, Int.reduceBNe, Nat.reduceMul, Int.reduceAdd, Int.reduceMul, Int.reduceSub, Int.reduceEq, Int.reduceNe]
  cases hn : nameOk x.name
  · simp (maxSteps := 400000) only [go_sem, ↓reduceIte, reduceCtorEq, Nat.reduceEqDiff, Nat.reduceAdd, Nat.reduceLT, Nat.reduceLeDiff, Nat.reduceSub, Int.reduceToNat, Int.reduceLE, Int.reduceLT, Int.reduceNeg, Int.reduceBEq, Int.reduceBNe, Nat.reduceMul, Int.reduceAdd, Int.reduceMul, Int.reduceSub, Int.reduceEq, Int.reduceNe]
    simp [namedErr, hn]
  · simp (maxSteps := 400000) only [hle, Option.getD_none, Option.getD_some, htk, hfl, go_sem, ↓reduceIte, reduceCtorEq, Nat.reduceEqDiff, Nat.reduceAdd, Nat.reduceLT, Nat.reduceLeDiff, Nat.reduceSub, Int.reduceToNat, Int.reduceLE, Int.reduceLT, Int.reduceNeg, Int.reduceBEq, Int.reduceBNe, Nat.reduceMul, Int.reduceAdd, Int.reduceMul, Int.reduceSub, Int.reduceEq, Int.reduceNe]
    refine WF_frz (cContainsFunc3 (fv := .func (.func 73) [] [.ptr 1 [.func (.func 49) [] []] 0 0, .ptr 1 [.str x.name] 0 0]) l (fun y => y.name == x.name) false 8 rfl (by omega) fun y _ => ⟨_, _, _, rfl, cSame1 x.name y⟩) ?_ (.bool _) ?_
    · simp (maxSteps := 400000) only [go_sem, ↓reduceIte, reduceCtorEq, Nat.reduceEqDiff, Nat.reduceAdd, Nat.reduceLT, Nat.reduceLeDiff, Nat.reduceSub, Int.reduceToNat, Int.reduceLE, Int.reduceLT, Int.reduceNeg, Int.reduceBEq, Int.reduceBNe, Nat.reduceMul, Int.reduceAdd, Int.reduceMul, Int.reduceSub, Int.reduceEq, Int.reduceNe]
    simp (maxSteps := 400000) only [go_sem, ↓reduceIte, reduceCtorEq, Nat.reduceEqDiff, Nat.reduceAdd, Nat.reduceLT, Nat.reduceLeDiff, Nat.reduceSub, Int.reduceToNat, Int.reduceLE, Int.reduceLT, Int.reduceNeg, Int.reduceBEq, Int.reduceBNe, Nat.reduceMul, Int.reduceAdd, Int.reduceMul, Int.reduceSub, Int.reduceEq, Int.reduceNe]
    refine WB_split (fun hb => ?_) (fun hb => ?_) <;> simp (maxSteps := 400000) only [hb, go_sem, ↓reduceIte, reduceCtorEq, Nat.reduceEqDiff, Nat.reduceAdd, Nat.reduceLT, Nat.reduceLeDiff, Nat.reduceSub, Int.reduceToNat, Int.reduceLE, Int.reduceLT, Int.reduceNeg, Int.reduceBEq, Int.reduceBNe, Nat.reduceMul, Int.reduceAdd, Int.reduceMul, Int.reduceSub, Int.reduceEq, Int.reduceNe]
    · simp only [namedErr, hn, List.any_map, Function.comp_def, hb, if_true]
    · simp only [namedErr, hn, List.any_map, Function.comp_def, hb, if_true, Bool.false_eq_true, if_false]
theorem cRefNamed (s : ByteArray) (l : List ByteArray) (b : Bool) (hl : l.length < 1000000000) : PCall Try.prog 52 [.str s, .slice 1 (l.map .str) b] (.int .i64 (namedErr l s)) := by
  refine pcall_of_wp draws (fn := Try.f52) (n := 21) (rs := [.tmp 4]) (by kernel_rfl) rfl rfl rfl ok52 (Nat.le_of_ble_eq_true rfl) ?_
  simp (maxSteps := 400000) only [go_sem, ↓reduceIte, reduceCtorEq, Nat.reduceEqDiff, Nat.reduceAdd, Nat.reduceLT, Nat.reduceLeDiff, Nat.reduceSub, Int.reduceToNat, Int.reduceLE, Int.reduceLT, Int.reduceNeg, Int.reduceBEq, Int.reduceBNe, Nat.reduceMul, Int.reduceAdd, Int.reduceMul, Int.reduceSub, Int.reduceEq, Int.reduceNe]
  refine WF_pure (cRefName s) rfl ?_
  simp (maxSteps := 400000) only [go_sem, ↓reduceIte, reduceCtorEq, Nat.reduceEqDiff, Nat.reduceAdd, Nat.reduceLT, Nat.reduceLeDiff, Nat.reduceSub, Int.reduceToNat, Int.reduceLE, Int.reduceLT, Int.reduceNeg, Int.reduceBEq, Int.reduceBNe, Nat.reduceMul, Int.reduceAdd, Int.reduceMul, Int.reduceSub, Int.reduceEq, Int.reduceNe]
  cases hn : nameOk s
  · simp (maxSteps := 400000) only [go_sem, ↓reduceIte, reduceCtorEq, Nat.reduceEqDiff, Nat.reduceAdd, Nat.reduceLT, Nat.reduceLeDiff, Nat.reduceSub, Int.reduceToNat, Int.reduceLE, Int.reduceLT, Int.reduceNeg, Int.reduceBEq, Int.reduceBNe, Nat.reduceMul, Int.reduceAdd, Int.reduceMul, Int.reduceSub, Int.reduceEq, Int.reduceNe]
    simp [namedErr, hn]
  · simp (maxSteps := 400000) only [go_sem, ↓reduceIte, reduceCtorEq, Nat.reduceEqDiff, Nat.reduceAdd, Nat.reduceLT, Nat.reduceLeDiff, Nat.reduceSub, Int.reduceToNat, Int.reduceLE, Int.reduceLT, Int.reduceNeg, Int.reduceBEq, Int.reduceBNe, Nat.reduceMul, Int.reduceAdd, Int.reduceMul, Int.reduceSub, Int.reduceEq, Int.reduceNe]
    refine W_loopH [0, 1] (σ := List ByteArray × List ByteArray) (fun q => l = q.1 ++ q.2 ∧ namedErr l s = (if q.2.any (fun t => t == s) = true then 5 else 0)) (fun q => q.2.length) (fun q => [(5, .p (.int .i64 q.1.length))]) ([], l) ⟨rfl, by simp [namedErr, hn]⟩ ?_ ?_
    · simp (maxSteps := 400000) only [go_sem, ↓reduceIte, reduceCtorEq, Nat.reduceEqDiff, Nat.reduceAdd, Nat.reduceLT, Nat.reduceLeDiff, Nat.reduceSub, Int.reduceToNat, Int.reduceLE, Int.reduceLT, Int.reduceNeg, Int.reduceBEq, Int.reduceBNe, Nat.reduceMul, Int.reduceAdd, Int.reduceMul, Int.reduceSub, Int.reduceEq, Int.reduceNe] <;> simp
    · rintro ⟨done, rest⟩ ⟨e1, e2⟩
      dsimp only at e1 e2
      cases rest with
      | nil =>
        have hlt : ¬ ((done.length : Int) < (l.length : Int)) := by rw [e1]; simp
        simp (maxSteps := 400000) only [hlt, decide_false, go_sem, ↓reduceIte, reduceCtorEq, Nat.reduceEqDiff, Nat.reduceAdd, Nat.reduceLT, Nat.reduceLeDiff, Nat.reduceSub, Int.reduceToNat, Int.reduceLE, Int.reduceLT, Int.reduceNeg, Int.reduceBEq, Int.reduceBNe, Nat.reduceMul, Int.reduceAdd, Int.reduceMul, Int.reduceSub, Int.reduceEq, Int.reduceNe]
        rw [e2]; rfl
      | cons x r =>
        obtain ⟨hx, hlt⟩ := list_at e1
        have hnx : IntKind.i64.wrap ((done.length : Int) + 1) = (((done ++ [x]).length : Nat) : Int) := wrap_add (by omega) (by simp [room]; omega) (by simp)
        simp (maxSteps := 400000) only [hlt, decide_true, hx, go_sem, ↓reduceIte, reduceCtorEq, Nat.reduceEqDiff, Nat.reduceAdd, Nat.reduceLT, Nat.reduceLeDiff, Nat.reduceSub, Int.reduceToNat, Int.reduceLE, Int.reduceLT, Int.reduceNeg, Int.reduceBEq, Int.reduceBNe, Nat.reduceMul, Int.reduceAdd, Int.reduceMul, Int.reduceSub, Int.reduceEq, Int.reduceNe]
        rw [List.any_cons] at e2
        cases hb : (x == s)
        · simp (maxSteps := 400000) only [go_sem, ↓reduceIte, reduceCtorEq, Nat.reduceEqDiff, Nat.reduceAdd, Nat.reduceLT, Nat.reduceLeDiff, Nat.reduceSub, Int.reduceToNat, Int.reduceLE, Int.reduceLT, Int.reduceNeg, Int.reduceBEq, Int.reduceBNe, Nat.reduceMul, Int.reduceAdd, Int.reduceMul, Int.reduceSub, Int.reduceEq, Int.reduceNe]
          refine WQ_headA (done ++ [x], r) ⟨by simp [e1], by rw [e2, hb]; rfl⟩ (by simp) ?_
          simp (maxSteps := 400000) only [hnx, go_sem, ↓reduceIte, reduceCtorEq, Nat.reduceEqDiff, Nat.reduceAdd, Nat.reduceLT, Nat.reduceLeDiff, Nat.reduceSub, Int.reduceToNat, Int.reduceLE, Int.reduceLT, Int.reduceNeg, Int.reduceBEq, Int.reduceBNe, Nat.reduceMul, Int.reduceAdd, Int.reduceMul, Int.reduceSub, Int.reduceEq, Int.reduceNe]
        · simp (maxSteps := 400000) only [go_sem, ↓reduceIte, reduceCtorEq, Nat.reduceEqDiff, Nat.reduceAdd, Nat.reduceLT, Nat.reduceLeDiff, Nat.reduceSub, Int.reduceToNat, Int.reduceLE, Int.reduceLT, Int.reduceNeg, Int.reduceBEq, Int.reduceBNe, Nat.reduceMul, Int.reduceAdd, Int.reduceMul, Int.reduceSub, Int.reduceEq, Int.reduceNe]
          rw [e2, hb]; rfl

end Abs
end Go.Proofs.Ytdgmmijimclooaa
