/-
  CONTRACTS: hour.Check, in the program and in the reference: both come to 'hrCheck'. No conditions.
-/
import Derived.Test.YtdellinghbppgaaGreatDoorLibAll
namespace Go.Proofs.YtdellinghbppgaaGreatDoor
namespace Abs
set_option linter.unusedSimpArgs false
set_option linter.unusedVariables false
set_option maxRecDepth 4000

/-! numbers out of a range -/
theorem cHrOut1 (lo hi n : Int) : PCall Tryz.prog 81 [.int .i64 n, .ptr 1 [.int .i64 lo] 0 0, .ptr 1 [.int .i64 hi] 0 0] (.bool (!gIn n lo hi)) := by
  refine pcall_of_wp draws (fn := Tryz.f81) (n := 13) (rs := [.tmp 4]) (by kernel_rfl) rfl rfl rfl ok81 (Nat.le_of_ble_eq_true rfl) ?_
  simp (maxSteps := 400000) only [go_sem, simprocAttr]
  refine WB_split (fun hb => ?_) (fun hb => ?_) <;> simp (maxSteps := 400000) only [hb, go_sem, simprocAttr] <;> simp_all [gIn]
  rw [← decide_not]; congr 1; simp
theorem cHrOut (lo hi : Int) (l : List Int) (b : Bool) (hl : l.length < 1000000000) : PCall Tryz.prog 42 [.int .i64 lo, .int .i64 hi, .slice 1 (l.map intPV) b] (.bool (l.any fun n => !gIn n lo hi)) := by
  refine pcall_of_wp draws (fn := Tryz.f42) (n := 10) (rs := [.tmp 6]) (by kernel_rfl) rfl rfl rfl ok42 (Nat.le_of_ble_eq_true rfl) ?_
  simp (maxSteps := 400000) only [go_sem, simprocAttr]
  refine WF_frz (cContainsFunc0 (fv := .func (.func 81) [] [.ptr 1 [.int .i64 lo] 0 0, .ptr 1 [.int .i64 hi] 0 0]) l (fun n => !gIn n lo hi) b 1 rfl hl fun n _ => ⟨_, _, _, rfl, cHrOut1 lo hi n⟩) ?_ (.bool _) ?_
  · simp (maxSteps := 400000) only [go_sem, simprocAttr]
  · simp (maxSteps := 400000) only [go_sem, simprocAttr]

/-! names among those before -/
theorem cHrName0 (x : HrKind) : PCall Tryz.prog 44 [x.pv] (.str x.name) := by
  refine pcall_of_wp draws (fn := Tryz.f44) (n := 5) (rs := [.tmp 2]) (by kernel_rfl) rfl rfl rfl ok44 (Nat.le_of_ble_eq_true rfl) ?_
  simp (maxSteps := 400000) only [go_sem, simprocAttr]
theorem cHrSame0 (s : ByteArray) (x : HrKind) : PCall Tryz.prog 84 [x.pv, .ptr 1 [.func (.func 44) [] []] 0 0, .ptr 1 [.str s] 0 0] (.bool (x.name == s)) := by
  refine pcall_of_wp draws (fn := Tryz.f84) (n := 10) (rs := [.tmp 4]) (by kernel_rfl) rfl rfl rfl ok84 (Nat.le_of_ble_eq_true rfl) ?_
  simp (maxSteps := 400000) only [go_sem, simprocAttr]
  refine WDQ_pure (cHrName0 x) rfl ?_
  simp (maxSteps := 400000) only [go_sem, simprocAttr]
theorem cHrNamed0 (l : List HrKind) (x : HrKind) (b : Bool) (hl : l.length < 1000000) : PCall Tryz.prog 43 [.slice 4 ((l ++ [x]).map HrKind.pv) b, .func (.func 44) [] []] (.int .i64 (namedErr (l.map (·.name)) x.name)) := by
  have hw : IntKind.i64.wrap ((((l ++ [x]).length : Nat) : Int) - 1) = ((l.length : Nat) : Int) := by
    rw [wrap_small (by simp <;> omega) (by simp [room] <;> omega)]; simp
  have hx : (l ++ [x])[l.length]? = some x := by simp
  have hlt : ((l.length : Nat) : Int) < (((l ++ [x]).length : Nat) : Int) := by simp <;> omega
  have hle : ((l.length : Nat) : Int) ≤ (((l ++ [x]).length : Nat) : Int) := by omega
  have htk : ((l ++ [x]).map HrKind.pv).take l.length = l.map HrKind.pv := by rw [List.map_append, List.take_left' (by simp)]
  have hfl : (l.length == (l ++ [x]).length) = false := by simp
  refine pcall_of_wp draws (fn := Tryz.f43) (n := 26) (rs := [.tmp 4]) (by kernel_rfl) rfl rfl rfl ok43 (Nat.le_of_ble_eq_true rfl) ?_
  simp (maxSteps := 400000) only [hw, hx, hlt, go_sem, simprocAttr]
  refine WDQ_pure (cHrName0 x) rfl ?_
  simp (maxSteps := 400000) only [go_sem, simprocAttr]
  refine WF_pure (cWaxName x.name) rfl ?_
  simp (maxSteps := 400000) only [go_sem, simprocAttr]
  cases hn : nameOk x.name
  · simp (maxSteps := 400000) only [go_sem, simprocAttr]
    simp [namedErr, hn]
  · simp (maxSteps := 400000) only [hle, htk, hfl, go_sem, simprocAttr]
    refine WF_frz (cContainsFunc3 (fv := .func (.func 84) [] [.ptr 1 [.func (.func 44) [] []] 0 0, .ptr 1 [.str x.name] 0 0]) l (fun y => y.name == x.name) false 4 rfl (by omega) fun y _ => ⟨_, _, _, rfl, cHrSame0 x.name y⟩) ?_ (.bool _) ?_
    · simp (maxSteps := 400000) only [go_sem, simprocAttr]
    simp (maxSteps := 400000) only [go_sem, simprocAttr]
    refine WB_split (fun hb => ?_) (fun hb => ?_) <;> simp (maxSteps := 400000) only [hb, go_sem, simprocAttr]
    · simp only [namedErr, hn, List.any_map, Function.comp_def, hb, if_true]
    · simp only [namedErr, hn, List.any_map, Function.comp_def, hb, if_true, Bool.false_eq_true, if_false]
theorem cHrName1 (x : HrRule) : PCall Tryz.prog 46 [x.pv] (.str x.name) := by
  refine pcall_of_wp draws (fn := Tryz.f46) (n := 5) (rs := [.tmp 2]) (by kernel_rfl) rfl rfl rfl ok46 (Nat.le_of_ble_eq_true rfl) ?_
  simp (maxSteps := 400000) only [go_sem, simprocAttr]
theorem cHrSame1 (s : ByteArray) (x : HrRule) : PCall Tryz.prog 86 [x.pv, .ptr 1 [.func (.func 46) [] []] 0 0, .ptr 1 [.str s] 0 0] (.bool (x.name == s)) := by
  refine pcall_of_wp draws (fn := Tryz.f86) (n := 10) (rs := [.tmp 4]) (by kernel_rfl) rfl rfl rfl ok86 (Nat.le_of_ble_eq_true rfl) ?_
  simp (maxSteps := 400000) only [go_sem, simprocAttr]
  refine WDQ_pure (cHrName1 x) rfl ?_
  simp (maxSteps := 400000) only [go_sem, simprocAttr]
theorem cHrNamed1 (l : List HrRule) (x : HrRule) (b : Bool) (hl : l.length < 1000000) : PCall Tryz.prog 45 [.slice 5 ((l ++ [x]).map HrRule.pv) b, .func (.func 46) [] []] (.int .i64 (namedErr (l.map (·.name)) x.name)) := by
  have hw : IntKind.i64.wrap ((((l ++ [x]).length : Nat) : Int) - 1) = ((l.length : Nat) : Int) := by
    rw [wrap_small (by simp <;> omega) (by simp [room] <;> omega)]; simp
  have hx : (l ++ [x])[l.length]? = some x := by simp
  have hlt : ((l.length : Nat) : Int) < (((l ++ [x]).length : Nat) : Int) := by simp <;> omega
  have hle : ((l.length : Nat) : Int) ≤ (((l ++ [x]).length : Nat) : Int) := by omega
  have htk : ((l ++ [x]).map HrRule.pv).take l.length = l.map HrRule.pv := by rw [List.map_append, List.take_left' (by simp)]
  have hfl : (l.length == (l ++ [x]).length) = false := by simp
  refine pcall_of_wp draws (fn := Tryz.f45) (n := 26) (rs := [.tmp 4]) (by kernel_rfl) rfl rfl rfl ok45 (Nat.le_of_ble_eq_true rfl) ?_
  simp (maxSteps := 400000) only [hw, hx, hlt, go_sem, simprocAttr]
  refine WDQ_pure (cHrName1 x) rfl ?_
  simp (maxSteps := 400000) only [go_sem, simprocAttr]
  refine WF_pure (cWaxName x.name) rfl ?_
  simp (maxSteps := 400000) only [go_sem, simprocAttr]
  cases hn : nameOk x.name
  · simp (maxSteps := 400000) only [go_sem, simprocAttr]
    simp [namedErr, hn]
  · simp (maxSteps := 400000) only [hle, htk, hfl, go_sem, simprocAttr]
    refine WF_frz (cContainsFunc4 (fv := .func (.func 86) [] [.ptr 1 [.func (.func 46) [] []] 0 0, .ptr 1 [.str x.name] 0 0]) l (fun y => y.name == x.name) false 5 rfl (by omega) fun y _ => ⟨_, _, _, rfl, cHrSame1 x.name y⟩) ?_ (.bool _) ?_
    · simp (maxSteps := 400000) only [go_sem, simprocAttr]
    simp (maxSteps := 400000) only [go_sem, simprocAttr]
    refine WB_split (fun hb => ?_) (fun hb => ?_) <;> simp (maxSteps := 400000) only [hb, go_sem, simprocAttr]
    · simp only [namedErr, hn, List.any_map, Function.comp_def, hb, if_true]
    · simp only [namedErr, hn, List.any_map, Function.comp_def, hb, if_true, Bool.false_eq_true, if_false]

/-! what Check is -/
def hrKindBase (k : HrKind) : Int :=
  if (gIn k.weight.lo 1 10000000 && gIn k.weight.hi 1 10000000 && gIn k.rest 0 10000000) = true then (if (decide (k.weight.hi < k.weight.lo) || decide (k.weight.lo ≤ k.rest)) = true then 2 else 0) else 7
def hrRuleBase (r : HrRule) : Int :=
  if (gIn r.minutes.lo 0 1000000 && gIn r.minutes.hi 0 1000000 && (gIn r.weight.lo 0 10000000 && gIn r.weight.hi 0 10000000)) = true then
    (if (decide (r.minutes.hi < r.minutes.lo) || decide (r.weight.hi < r.weight.lo)) = true then 2 else 0) else 7
def hrKindErr (before : List ByteArray) (k : HrKind) : Int := if namedErr before k.name = 0 then hrKindBase k else namedErr before k.name
def hrRuleErr (before : List ByteArray) (r : HrRule) : Int := if namedErr before r.name = 0 then hrRuleBase r else namedErr before r.name
def hrTail (s : HrShop) : Option (Int × Int) → Int × Int × Int
  | some (i, e) => (2, i, e)
  | none => match firstErr hrRuleErr (·.name) s.rules [] with | some (i, e) => (3, i, e) | none => (0, 0, 0)
def hrCheck (s : HrShop) : Int × Int × Int :=
  if (gIn s.kinds.length 1 6 && decide (s.rules.length ≤ 6)) = true then
    if gIn s.margin 0 500 = true then hrTail s (firstErr hrKindErr (·.name) s.kinds []) else (1, 0, 7)
  else (1, 0, 3)
theorem hrKind_at {s : HrShop} {done r : List HrKind} {x : HrKind} (_ : s.kinds = done ++ x :: r) (e2 : firstErr hrKindErr (·.name) s.kinds [] = firstErr hrKindErr (·.name) (x :: r) (done.map (·.name))) :
    (hrKindErr (done.map (·.name)) x = 0 → firstErr hrKindErr (·.name) s.kinds [] = firstErr hrKindErr (·.name) r ((done ++ [x]).map (·.name))) ∧
    ∀ e, hrKindErr (done.map (·.name)) x = e → e ≠ 0 → hrTail s (firstErr hrKindErr (·.name) s.kinds []) = (2, (done.length : Int), e) := by
  have hE : firstErr hrKindErr (·.name) s.kinds [] = if hrKindErr (done.map (·.name)) x = 0 then firstErr hrKindErr (·.name) r ((done ++ [x]).map (·.name)) else some ((done.length : Int), hrKindErr (done.map (·.name)) x) := by
    rw [e2, firstErr]; simp
  exact ⟨fun h => by rw [hE, if_pos h], fun e he hne => by rw [hE, he, if_neg hne]; rfl⟩
theorem hrRule_at {s : HrShop} {done r : List HrRule} {x : HrRule} (_ : s.rules = done ++ x :: r) (e2 : firstErr hrRuleErr (·.name) s.rules [] = firstErr hrRuleErr (·.name) (x :: r) (done.map (·.name))) :
    (hrRuleErr (done.map (·.name)) x = 0 → firstErr hrRuleErr (·.name) s.rules [] = firstErr hrRuleErr (·.name) r ((done ++ [x]).map (·.name))) ∧
    ∀ e, hrRuleErr (done.map (·.name)) x = e → e ≠ 0 → hrTail s none = (3, (done.length : Int), e) := by
  have hE : firstErr hrRuleErr (·.name) s.rules [] = if hrRuleErr (done.map (·.name)) x = 0 then firstErr hrRuleErr (·.name) r ((done ++ [x]).map (·.name)) else some ((done.length : Int), hrRuleErr (done.map (·.name)) x) := by
    rw [e2, firstErr]; simp
  exact ⟨fun h => by rw [hE, if_pos h], fun e he hne => by simp only [hrTail]; rw [hE, he, if_neg hne]⟩

set_option maxHeartbeats 1000000 in
theorem cHrCheck (s : HrShop) : PCall Tryz.prog 14 [s.pv] (triple (hrCheck s)) := by
  refine pcall_of_wp draws (fn := Tryz.f14) (n := 137) (rs := [.tmp 2, .tmp 3, .tmp 4]) (by kernel_rfl) rfl rfl rfl ok14 (Nat.le_of_ble_eq_true rfl) ?_
  simp (maxSteps := 400000) only [go_sem, simprocAttr]
  refine WF_pure (cHrOut 1 6 [_] true (by simp)) rfl ?_
  simp (maxSteps := 400000) only [List.any_cons, List.any_nil, Bool.or_false, go_sem, simprocAttr]
  cases h1 : gIn s.kinds.length 1 6
  · simp (maxSteps := 400000) only [triple, hrCheck, h1, go_sem, simprocAttr]
  simp (maxSteps := 400000) only [go_sem, simprocAttr]
  cases h2 : decide ((6 : Int) < (s.rules.length : Int))
  rotate_left
  · have h2' : decide (s.rules.length ≤ 6) = false := by simp at h2 ⊢; omega
    simp (maxSteps := 400000) only [triple, hrCheck, h1, h2', go_sem, simprocAttr]
  have h2' : decide (s.rules.length ≤ 6) = true := by simp at h2 ⊢; omega
  simp (maxSteps := 400000) only [go_sem, simprocAttr]
  refine WF_pure (cHrOut 0 500 [_] true (by simp)) rfl ?_
  simp (maxSteps := 400000) only [List.any_cons, List.any_nil, Bool.or_false, go_sem, simprocAttr]
  cases h3 : gIn s.margin 0 500
  · simp (maxSteps := 400000) only [triple, hrCheck, h1, h2', h3, go_sem, simprocAttr]
  have hspec : hrCheck s = hrTail s (firstErr hrKindErr (·.name) s.kinds []) := by simp only [hrCheck, h1, h2', h3, Bool.and_self, if_true]
  rw [hspec]
  have hlk : s.kinds.length ≤ 6 := by simp [gIn] at h1; omega
  have hlr : s.rules.length ≤ 6 := by simpa using h2'
  simp (maxSteps := 400000) only [go_sem, simprocAttr]
  refine W_rangeA [1, 27, 28] s.kinds (by omega) (τ := Unit) (fun done rest _ => firstErr hrKindErr (·.name) s.kinds [] = firstErr hrKindErr (·.name) rest (done.map (·.name)))
    (fun done _ => [(29, .p (.int .i64 done.length)), (4, .p (.int .i64 0))]) (fun _ _ => [.row 3 [.p s.pv]]) () rfl ?_ ?_ ?_
  · simp (maxSteps := 400000) only [go_sem, simprocAttr] <;> simp
  · intro _ e2
    have hT : hrTail s (firstErr hrKindErr (·.name) s.kinds []) = hrTail s none := by rw [e2]; rfl
    rw [hT]
    simp (maxSteps := 400000) only [go_sem, simprocAttr]
    refine W_rangeA [1, 80, 81] s.rules (by omega) (τ := Unit) (fun done rest _ => firstErr hrRuleErr (·.name) s.rules [] = firstErr hrRuleErr (·.name) rest (done.map (·.name)))
      (fun done _ => [(82, .p (.int .i64 done.length)), (4, .p (.int .i64 0))]) (fun _ _ => [.row 3 [.p s.pv]]) () rfl ?_ ?_ ?_
    · simp (maxSteps := 400000) only [go_sem, simprocAttr] <;> simp
    · intro _ e2
      have hT : hrTail s none = (0, 0, 0) := by
        simp only [hrTail]
        rw [e2]; rfl
      simp (maxSteps := 400000) only [triple, hT, go_sem, simprocAttr]
    · intro done x r _ e1 e2 hx hlt hnx
      obtain ⟨go, fin⟩ := hrRule_at e1 e2
      have hle : (((done ++ [x]).length : Nat) : Int) ≤ (s.rules.length : Int) := by rw [e1]; simp <;> omega
      have htk : (s.rules.map HrRule.pv).take (done ++ [x]).length = (done ++ [x]).map HrRule.pv := by
        rw [e1, show done ++ x :: r = (done ++ [x]) ++ r by simp, List.map_append, List.take_left' (by simp)]
      have hdl : done.length < 1000000 := by have := congrArg List.length e1; simp at this; omega
      simp (maxSteps := 400000) only [hlt, hx, hnx, hle, htk, go_sem, simprocAttr]
      refine WF_pure (cHrNamed1 done x false hdl) rfl ?_
      simp (maxSteps := 400000) only [go_sem, simprocAttr]
      cases h5 : (namedErr (done.map (·.name)) x.name != 0)
      rotate_left
      · have h5' : namedErr (done.map (·.name)) x.name ≠ 0 := by simpa using h5
        simp (maxSteps := 400000) only [h5, triple, fin _ (by rw [hrRuleErr, if_neg h5']) h5', go_sem, simprocAttr]
      have h5' : namedErr (done.map (·.name)) x.name = 0 := by simpa using h5
      have hb : hrRuleErr (done.map (·.name)) x = hrRuleBase x := by rw [hrRuleErr, if_pos h5']
      simp (maxSteps := 400000) only [go_sem, simprocAttr]
      refine WF_pure (cHrOut 0 1000000 [_, _] true (by simp)) rfl ?_
      simp (maxSteps := 400000) only [List.any_cons, List.any_nil, Bool.or_false, ← Bool.not_and, go_sem, simprocAttr]
      cases h6 : (gIn x.minutes.lo 0 1000000 && gIn x.minutes.hi 0 1000000)
      · simp (maxSteps := 400000) only [triple, fin 7 (by rw [hb, hrRuleBase, h6]; rfl) (by decide), go_sem, simprocAttr]
      simp (maxSteps := 400000) only [go_sem, simprocAttr]
      refine WF_pure (cHrOut 0 10000000 [_, _] true (by simp)) rfl ?_
      simp (maxSteps := 400000) only [List.any_cons, List.any_nil, Bool.or_false, ← Bool.not_and, go_sem, simprocAttr]
      cases h7 : (gIn x.weight.lo 0 10000000 && gIn x.weight.hi 0 10000000)
      · simp (maxSteps := 400000) only [triple, fin 7 (by rw [hb, hrRuleBase, h6, h7]; rfl) (by decide), go_sem, simprocAttr]
      simp (maxSteps := 400000) only [go_sem, simprocAttr]
      cases h8 : decide (x.minutes.hi < x.minutes.lo)
      rotate_left
      · simp (maxSteps := 400000) only [triple, fin 2 (by rw [hb, hrRuleBase, h6, h7, h8]; rfl) (by decide), go_sem, simprocAttr]
      simp (maxSteps := 400000) only [go_sem, simprocAttr]
      cases h9 : decide (x.weight.hi < x.weight.lo)
      rotate_left
      · simp (maxSteps := 400000) only [triple, fin 2 (by rw [hb, hrRuleBase, h6, h7, h8, h9]; rfl) (by decide), go_sem, simprocAttr]
      simp (maxSteps := 400000) only [h5, h5', go_sem, simprocAttr]
      refine WQ_next e1 () (go (by rw [hb, hrRuleBase, h6, h7, h8, h9]; rfl)) ?_
      simp (maxSteps := 400000) only [hnx, h5', go_sem, simprocAttr]
  · intro done x r _ e1 e2 hx hlt hnx
    obtain ⟨go, fin⟩ := hrKind_at e1 e2
    have hle : (((done ++ [x]).length : Nat) : Int) ≤ (s.kinds.length : Int) := by rw [e1]; simp <;> omega
    have htk : (s.kinds.map HrKind.pv).take (done ++ [x]).length = (done ++ [x]).map HrKind.pv := by
      rw [e1, show done ++ x :: r = (done ++ [x]) ++ r by simp, List.map_append, List.take_left' (by simp)]
    have hdl : done.length < 1000000 := by have := congrArg List.length e1; simp at this; omega
    simp (maxSteps := 400000) only [hlt, hx, hnx, hle, htk, go_sem, simprocAttr]
    refine WF_pure (cHrNamed0 done x false hdl) rfl ?_
    simp (maxSteps := 400000) only [go_sem, simprocAttr]
    cases h5 : (namedErr (done.map (·.name)) x.name != 0)
    rotate_left
    · have h5' : namedErr (done.map (·.name)) x.name ≠ 0 := by simpa using h5
      simp (maxSteps := 400000) only [h5, triple, fin _ (by rw [hrKindErr, if_neg h5']) h5', go_sem, simprocAttr]
    have h5' : namedErr (done.map (·.name)) x.name = 0 := by simpa using h5
    have hb : hrKindErr (done.map (·.name)) x = hrKindBase x := by rw [hrKindErr, if_pos h5']
    simp (maxSteps := 400000) only [go_sem, simprocAttr]
    refine WF_pure (cHrOut 1 10000000 [_, _] true (by simp)) rfl ?_
    simp (maxSteps := 400000) only [List.any_cons, List.any_nil, Bool.or_false, ← Bool.not_and, go_sem, simprocAttr]
    cases h6 : (gIn x.weight.lo 1 10000000 && gIn x.weight.hi 1 10000000)
    · simp (maxSteps := 400000) only [triple, fin 7 (by rw [hb, hrKindBase, h6]; rfl) (by decide), go_sem, simprocAttr]
    simp (maxSteps := 400000) only [go_sem, simprocAttr]
    refine WF_pure (cHrOut 0 10000000 [_] true (by simp)) rfl ?_
    simp (maxSteps := 400000) only [List.any_cons, List.any_nil, Bool.or_false, go_sem, simprocAttr]
    cases h7 : gIn x.rest 0 10000000
    · simp (maxSteps := 400000) only [triple, fin 7 (by rw [hb, hrKindBase, h6, h7]; rfl) (by decide), go_sem, simprocAttr]
    simp (maxSteps := 400000) only [go_sem, simprocAttr]
    cases h8 : decide (x.weight.hi < x.weight.lo)
    rotate_left
    · simp (maxSteps := 400000) only [triple, fin 2 (by rw [hb, hrKindBase, h6, h7, h8]; rfl) (by decide), go_sem, simprocAttr]
    simp (maxSteps := 400000) only [go_sem, simprocAttr]
    cases h9 : decide (x.weight.lo ≤ x.rest)
    rotate_left
    · simp (maxSteps := 400000) only [triple, fin 2 (by rw [hb, hrKindBase, h6, h7, h8, h9]; rfl) (by decide), go_sem, simprocAttr]
    simp (maxSteps := 400000) only [h5, h5', go_sem, simprocAttr]
    refine WQ_next e1 () (go (by rw [hb, hrKindBase, h6, h7, h8, h9]; rfl)) ?_
    simp (maxSteps := 400000) only [hnx, h5', go_sem, simprocAttr]

/-! the reference -/
theorem cRefHrKind (x : HrKind) : PCall Tryz.prog 49 [x.pv] (.int .i64 (hrKindBase x)) := by
  refine pcall_of_wp draws (fn := Tryz.f49) (n := 22) (rs := [.tmp 2]) (by kernel_rfl) rfl rfl rfl ok49 (Nat.le_of_ble_eq_true rfl) ?_
  simp (maxSteps := 400000) only [go_sem, simprocAttr]
  refine WF_pure (cSpan _ _ _ _) rfl ?_
  simp (maxSteps := 400000) only [go_sem, simprocAttr]
  refine WF_pure (cIn3 _ _ _) rfl ?_
  unfold hrKindBase
  cases h1 : gIn x.weight.lo 1 10000000
  · have hg : gSpan x.weight.lo x.weight.hi 1 10000000 = 7 := by simp [gSpan, h1]
    cases h3 : gIn x.rest 0 10000000
    · simp (maxSteps := 400000) only [hg, go_sem, simprocAttr]
    · simp (maxSteps := 400000) only [hg, go_sem, simprocAttr]
  cases h2 : gIn x.weight.hi 1 10000000
  · have hg : gSpan x.weight.lo x.weight.hi 1 10000000 = 7 := by simp [gSpan, h1, h2]
    cases h3 : gIn x.rest 0 10000000
    · simp (maxSteps := 400000) only [hg, go_sem, simprocAttr]
    · simp (maxSteps := 400000) only [hg, go_sem, simprocAttr]
  cases h3 : gIn x.rest 0 10000000
  · simp (maxSteps := 400000) only [go_sem, simprocAttr]
  cases h4 : decide (x.weight.hi < x.weight.lo)
  · have hg : gSpan x.weight.lo x.weight.hi 1 10000000 = 0 := by simp [gSpan, h1, h2]; simpa using h4
    cases h5 : decide (x.weight.lo ≤ x.rest)
    · simp (maxSteps := 400000) only [hg, h5, go_sem, simprocAttr]
    · simp (maxSteps := 400000) only [hg, h5, go_sem, simprocAttr]
  · have hg : gSpan x.weight.lo x.weight.hi 1 10000000 = 2 := by simp [gSpan, h1, h2]; simpa using h4
    simp (maxSteps := 400000) only [hg, go_sem, simprocAttr]
theorem cRefHrRule (x : HrRule) : PCall Tryz.prog 50 [x.pv] (.int .i64 (hrRuleBase x)) := by
  refine pcall_of_wp draws (fn := Tryz.f50) (n := 21) (rs := [.tmp 2]) (by kernel_rfl) rfl rfl rfl ok50 (Nat.le_of_ble_eq_true rfl) ?_
  simp (maxSteps := 400000) only [go_sem, simprocAttr]
  refine WDQ_pure (cSpan _ _ _ _) rfl ?_
  simp (maxSteps := 400000) only [go_sem, simprocAttr]
  refine WDQ_pure (cSpan _ _ _ _) rfl ?_
  unfold hrRuleBase
  have hg : ∀ (a : Span) (m n : Int), gSpan a.lo a.hi m n = if (gIn a.lo m n && gIn a.hi m n) = true then (if decide (a.hi < a.lo) = true then 2 else 0) else 7 := by
    intro a m n
    unfold gSpan
    cases gIn a.lo m n <;> cases gIn a.hi m n <;> simp
  simp only [hg]
  cases h1 : (gIn x.minutes.lo 0 1000000 && gIn x.minutes.hi 0 1000000) <;> cases h2 : (gIn x.weight.lo 0 10000000 && gIn x.weight.hi 0 10000000) <;>
    cases h3 : decide (x.minutes.hi < x.minutes.lo) <;> cases h4 : decide (x.weight.hi < x.weight.lo) <;> (simp (maxSteps := 400000) only [go_sem, simprocAttr]; try rfl)

set_option maxHeartbeats 1000000 in
theorem cRefHrCheck (s : HrShop) : PCall Tryz.prog 15 [s.pv] (triple (hrCheck s)) := by
  refine pcall_of_wp draws (fn := Tryz.f15) (n := 97) (rs := [.tmp 2, .tmp 3, .tmp 4]) (by kernel_rfl) rfl rfl rfl ok15 (Nat.le_of_ble_eq_true rfl) ?_
  simp (maxSteps := 400000) only [go_sem, simprocAttr]
  refine WF_pure (cIn3 _ _ _) rfl ?_
  simp (maxSteps := 400000) only [go_sem, simprocAttr]
  cases h1 : gIn s.kinds.length 1 6
  · simp (maxSteps := 400000) only [triple, hrCheck, h1, go_sem, simprocAttr]
  simp (maxSteps := 400000) only [go_sem, simprocAttr]
  cases h2 : decide ((6 : Int) < (s.rules.length : Int))
  rotate_left
  · have h2' : decide (s.rules.length ≤ 6) = false := by simp at h2 ⊢; omega
    simp (maxSteps := 400000) only [triple, hrCheck, h1, h2', go_sem, simprocAttr]
  have h2' : decide (s.rules.length ≤ 6) = true := by simp at h2 ⊢; omega
  simp (maxSteps := 400000) only [go_sem, simprocAttr]
  refine WF_pure (cIn3 _ _ _) rfl ?_
  simp (maxSteps := 400000) only [go_sem, simprocAttr]
  cases h3 : gIn s.margin 0 500
  · simp (maxSteps := 400000) only [triple, hrCheck, h1, h2', h3, go_sem, simprocAttr]
  have hspec : hrCheck s = hrTail s (firstErr hrKindErr (·.name) s.kinds []) := by simp only [hrCheck, h1, h2', h3, Bool.and_self, if_true]
  rw [hspec]
  have hlk : s.kinds.length ≤ 6 := by simp [gIn] at h1; omega
  have hlr : s.rules.length ≤ 6 := by simpa using h2'
  simp (maxSteps := 400000) only [go_sem, simprocAttr]
  refine W_loop_nil 5 1 (by simp (maxSteps := 400000) only [go_sem, simprocAttr]) ?_
  simp (maxSteps := 400000) only [go_sem, simprocAttr]
  refine W_rangeA [1] s.kinds (by omega) (τ := Unit) (fun done rest _ => firstErr hrKindErr (·.name) s.kinds [] = firstErr hrKindErr (·.name) rest (done.map (·.name)))
    (fun done _ => [(5, .slice 1 done.length 0 done.length), (6, .p (.int .i64 done.length))]) (fun done _ => [.row 3 [.p s.pv], .row 1 (done.map fun x => .p (.str x.name))]) () rfl ?_ ?_ ?_
  · simp (maxSteps := 400000) only [go_sem, simprocAttr] <;> simp
  · intro _ e2
    have hT : hrTail s (firstErr hrKindErr (·.name) s.kinds []) = hrTail s none := by rw [e2]; rfl
    rw [hT]
    simp (maxSteps := 400000) only [go_sem, simprocAttr]
    refine W_loop_nil 5 1 (by simp (maxSteps := 400000) only [go_sem, simprocAttr]) ?_
    simp (maxSteps := 400000) only [go_sem, simprocAttr]
    refine W_rangeA [1] s.rules (by omega) (τ := Unit) (fun done rest _ => firstErr hrRuleErr (·.name) s.rules [] = firstErr hrRuleErr (·.name) rest (done.map (·.name)))
      (fun done _ => [(5, .slice 2 done.length 0 done.length), (8, .p (.int .i64 done.length))]) (fun done _ => [.row 3 [.p s.pv], .row 1 (s.kinds.map fun x => .p (.str x.name)), .row 1 (done.map fun x => .p (.str x.name))]) () rfl ?_ ?_ ?_
    · simp (maxSteps := 400000) only [go_sem, simprocAttr] <;> simp
    · intro _ e2
      have hT : hrTail s none = (0, 0, 0) := by
        simp only [hrTail]
        rw [e2]; rfl
      simp (maxSteps := 400000) only [triple, hT, go_sem, simprocAttr]
    · intro done x r _ e1 e2 hx hlt hnx
      obtain ⟨go, fin⟩ := hrRule_at e1 e2
      have hrm : done.length + 1 ≤ room := by simp [room]; omega
      simp (maxSteps := 400000) only [hlt, hx, go_sem, simprocAttr]
      refine WF_frz (cRefNamedI x.name (done.map (·.name)) false (done.map fun x => .str x.name) (by simp) (by simp; omega)) ?_ (.int _ _) ?_
      · simp (maxSteps := 400000) only [go_sem, simprocAttr]
      simp (maxSteps := 400000) only [hrm, hlt, hx, go_sem, simprocAttr]
      cases h5 : (namedErr (done.map (·.name)) x.name == 0)
      · have h5' : namedErr (done.map (·.name)) x.name ≠ 0 := by simpa using h5
        have h5n : (namedErr (done.map (·.name)) x.name != 0) = true := by simp [bne, h5]
        simp (maxSteps := 400000) only [h5, h5n, triple, fin _ (by rw [hrRuleErr, if_neg h5']) h5', go_sem, simprocAttr]
      have h5' : namedErr (done.map (·.name)) x.name = 0 := by simpa using h5
      have hb : hrRuleErr (done.map (·.name)) x = hrRuleBase x := by rw [hrRuleErr, if_pos h5']
      simp (maxSteps := 400000) only [hx, hlt, go_sem, simprocAttr]
      refine WF_pure (cRefHrRule x) rfl ?_
      simp (maxSteps := 400000) only [go_sem, simprocAttr]
      cases h6 : (hrRuleBase x != 0)
      rotate_left
      · have h6' : hrRuleBase x ≠ 0 := by simpa using h6
        simp (maxSteps := 400000) only [h6, triple, fin _ hb h6', go_sem, simprocAttr]
      have h6' : hrRuleBase x = 0 := by simpa using h6
      simp (maxSteps := 400000) only [h6, go_sem, simprocAttr]
      refine WQ_next e1 () (go (hb.trans h6')) ?_
      simp (maxSteps := 400000) only [hnx, go_sem, simprocAttr]
      all_goals simp
  · intro done x r _ e1 e2 hx hlt hnx
    obtain ⟨go, fin⟩ := hrKind_at e1 e2
    have hrm : done.length + 1 ≤ room := by simp [room]; omega
    simp (maxSteps := 400000) only [hlt, hx, go_sem, simprocAttr]
    refine WF_frz (cRefNamedI x.name (done.map (·.name)) false (done.map fun x => .str x.name) (by simp) (by simp; omega)) ?_ (.int _ _) ?_
    · simp (maxSteps := 400000) only [go_sem, simprocAttr]
    simp (maxSteps := 400000) only [hrm, hlt, hx, go_sem, simprocAttr]
    cases h5 : (namedErr (done.map (·.name)) x.name == 0)
    · have h5' : namedErr (done.map (·.name)) x.name ≠ 0 := by simpa using h5
      have h5n : (namedErr (done.map (·.name)) x.name != 0) = true := by simp [bne, h5]
      simp (maxSteps := 400000) only [h5, h5n, triple, fin _ (by rw [hrKindErr, if_neg h5']) h5', go_sem, simprocAttr]
    have h5' : namedErr (done.map (·.name)) x.name = 0 := by simpa using h5
    have hb : hrKindErr (done.map (·.name)) x = hrKindBase x := by rw [hrKindErr, if_pos h5']
    simp (maxSteps := 400000) only [hx, hlt, go_sem, simprocAttr]
    refine WF_pure (cRefHrKind x) rfl ?_
    simp (maxSteps := 400000) only [go_sem, simprocAttr]
    cases h6 : (hrKindBase x != 0)
    rotate_left
    · have h6' : hrKindBase x ≠ 0 := by simpa using h6
      simp (maxSteps := 400000) only [h6, triple, fin _ hb h6', go_sem, simprocAttr]
    have h6' : hrKindBase x = 0 := by simpa using h6
    simp (maxSteps := 400000) only [h6, go_sem, simprocAttr]
    refine WQ_next e1 () (go (hb.trans h6')) ?_
    simp (maxSteps := 400000) only [hnx, go_sem, simprocAttr]
    all_goals simp
end Abs
end Go.Proofs.YtdellinghbppgaaGreatDoor
