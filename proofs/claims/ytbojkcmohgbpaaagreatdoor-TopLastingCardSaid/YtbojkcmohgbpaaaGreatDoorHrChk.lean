/-
  CONTRACTS: hour.Check, in the program and in the reference: both come to 'hrCheck'. No conditions.
-/
import Derived.Test.YtbojkcmohgbpaaaGreatDoorLibGoX
namespace Go.Proofs.YtbojkcmohgbpaaaGreatDoor
namespace Abs
set_option linter.unusedSimpArgs false
set_option linter.unusedVariables false
set_option maxRecDepth 4000
theorem cHrOut1 (lo hi n : Int) : PCall Tryz.prog 93 [.int .i64 n, .ptr 1 [.int .i64 lo] 0 0, .ptr 1 [.int .i64 hi] 0 0] (.bool (!gIn n lo hi)) := by
  refine pcall_of_wp draws (fn := Tryz.f93) (n := 13) (rs := [.tmp 4]) (by kernel_rfl) rfl rfl rfl ok93 (Nat.le_of_ble_eq_true rfl) ?_
  simp (maxSteps := 400000) only [go_sem, simprocAttr]
  refine WB_split (fun hb => ?_) (fun hb => ?_) <;> simp (maxSteps := 400000) only [hb, go_sem, simprocAttr] <;> simp_all [gIn]
  rw [← decide_not]; congr 1; simp
theorem cHrOut (lo hi : Int) (l : List Int) (b : Bool) (hl : l.length < 1000000000) : PCall Tryz.prog 61 [.int .i64 lo, .int .i64 hi, .slice 1 (l.map intPV) b] (.bool (l.any fun n => !gIn n lo hi)) := by
  refine pcall_of_wp draws (fn := Tryz.f61) (n := 10) (rs := [.tmp 6]) (by kernel_rfl) rfl rfl rfl ok61 (Nat.le_of_ble_eq_true rfl) ?_
  simp (maxSteps := 400000) only [go_sem, simprocAttr]
  refine WF_frz (cContainsFunc0 (fv := .func (.func 93) [] [.ptr 1 [.int .i64 lo] 0 0, .ptr 1 [.int .i64 hi] 0 0]) l (fun n => !gIn n lo hi) b 1 rfl hl fun n _ => ⟨_, _, _, rfl, cHrOut1 lo hi n⟩) ?_ (.bool _) ?_
  · simp (maxSteps := 400000) only [go_sem, simprocAttr]
  · simp (maxSteps := 400000) only [go_sem, simprocAttr]
theorem cHrName0 (x : HrKind) : PCall Tryz.prog 112 [x.pv] (.str x.name) := by
  refine pcall_of_wp draws (fn := Tryz.f112) (n := 5) (rs := [.tmp 2]) (by kernel_rfl) rfl rfl rfl ok112 (Nat.le_of_ble_eq_true rfl) ?_
  simp (maxSteps := 400000) only [go_sem, simprocAttr]
theorem cHrSame0 (s : ByteArray) (x : HrKind) : PCall Tryz.prog 134 [x.pv, .ptr 1 [.func (.func 112) [] []] 0 0, .ptr 1 [.str s] 0 0] (.bool (x.name == s)) := by
  refine pcall_of_wp draws (fn := Tryz.f134) (n := 10) (rs := [.tmp 4]) (by kernel_rfl) rfl rfl rfl ok134 (Nat.le_of_ble_eq_true rfl) ?_
  simp (maxSteps := 400000) only [go_sem, simprocAttr]
  refine WDQ_pure (cHrName0 x) rfl ?_
  simp (maxSteps := 400000) only [go_sem, simprocAttr]
theorem cHrNamed0 (l : List HrKind) (x : HrKind) (b : Bool) (hl : l.length < 1000000) : PCall Tryz.prog 111 [.slice 4 ((l ++ [x]).map HrKind.pv) b, .func (.func 112) [] []] (.int .i64 (namedErr (l.map (·.name)) x.name)) := by
  have hw : IntKind.i64.wrap ((((l ++ [x]).length : Nat) : Int) - 1) = ((l.length : Nat) : Int) := by
    rw [wrap_small (by simp <;> omega) (by simp [room] <;> omega)]; simp
  have hx : (l ++ [x])[l.length]? = some x := by simp
  have hlt : ((l.length : Nat) : Int) < (((l ++ [x]).length : Nat) : Int) := by simp <;> omega
  have hle : ((l.length : Nat) : Int) ≤ (((l ++ [x]).length : Nat) : Int) := by omega
  have htk : ((l ++ [x]).map HrKind.pv).take l.length = l.map HrKind.pv := by rw [List.map_append, List.take_left' (by simp)]
  have hfl : (l.length == (l ++ [x]).length) = false := by simp
  refine pcall_of_wp draws (fn := Tryz.f111) (n := 26) (rs := [.tmp 4]) (by kernel_rfl) rfl rfl rfl ok111 (Nat.le_of_ble_eq_true rfl) ?_
  simp (maxSteps := 400000) only [hw, hx, hlt, go_sem, simprocAttr]
  refine WDQ_pure (cHrName0 x) rfl ?_
  simp (maxSteps := 400000) only [go_sem, simprocAttr]
  refine WF_pure (cWaxName x.name) rfl ?_
  simp (maxSteps := 400000) only [go_sem, simprocAttr]
  cases hn : nameOk x.name
  · simp (maxSteps := 400000) only [go_sem, simprocAttr]
    simp [namedErr, hn]
  · simp (maxSteps := 400000) only [hle, htk, hfl, go_sem, simprocAttr]
    refine WF_frz (cContainsFunc3 (fv := .func (.func 134) [] [.ptr 1 [.func (.func 112) [] []] 0 0, .ptr 1 [.str x.name] 0 0]) l (fun y => y.name == x.name) false 4 rfl (by omega) fun y _ => ⟨_, _, _, rfl, cHrSame0 x.name y⟩) ?_ (.bool _) ?_
    · simp (maxSteps := 400000) only [go_sem, simprocAttr]
    simp (maxSteps := 400000) only [go_sem, simprocAttr]
    refine WB_split (fun hb => ?_) (fun hb => ?_) <;> simp (maxSteps := 400000) only [hb, go_sem, simprocAttr]
    · simp only [namedErr, hn, List.any_map, Function.comp_def, hb, if_true]
    · simp only [namedErr, hn, List.any_map, Function.comp_def, hb, if_true, Bool.false_eq_true, if_false]
theorem cHrName1 (x : HrRule) : PCall Tryz.prog 114 [x.pv] (.str x.name) := by
  refine pcall_of_wp draws (fn := Tryz.f114) (n := 5) (rs := [.tmp 2]) (by kernel_rfl) rfl rfl rfl ok114 (Nat.le_of_ble_eq_true rfl) ?_
  simp (maxSteps := 400000) only [go_sem, simprocAttr]
theorem cHrSame1 (s : ByteArray) (x : HrRule) : PCall Tryz.prog 136 [x.pv, .ptr 1 [.func (.func 114) [] []] 0 0, .ptr 1 [.str s] 0 0] (.bool (x.name == s)) := by
  refine pcall_of_wp draws (fn := Tryz.f136) (n := 10) (rs := [.tmp 4]) (by kernel_rfl) rfl rfl rfl ok136 (Nat.le_of_ble_eq_true rfl) ?_
  simp (maxSteps := 400000) only [go_sem, simprocAttr]
  refine WDQ_pure (cHrName1 x) rfl ?_
  simp (maxSteps := 400000) only [go_sem, simprocAttr]
theorem cHrNamed1 (l : List HrRule) (x : HrRule) (b : Bool) (hl : l.length < 1000000) : PCall Tryz.prog 113 [.slice 5 ((l ++ [x]).map HrRule.pv) b, .func (.func 114) [] []] (.int .i64 (namedErr (l.map (·.name)) x.name)) := by
  have hw : IntKind.i64.wrap ((((l ++ [x]).length : Nat) : Int) - 1) = ((l.length : Nat) : Int) := by
    rw [wrap_small (by simp <;> omega) (by simp [room] <;> omega)]; simp
  have hx : (l ++ [x])[l.length]? = some x := by simp
  have hlt : ((l.length : Nat) : Int) < (((l ++ [x]).length : Nat) : Int) := by simp <;> omega
  have hle : ((l.length : Nat) : Int) ≤ (((l ++ [x]).length : Nat) : Int) := by omega
  have htk : ((l ++ [x]).map HrRule.pv).take l.length = l.map HrRule.pv := by rw [List.map_append, List.take_left' (by simp)]
  have hfl : (l.length == (l ++ [x]).length) = false := by simp
  refine pcall_of_wp draws (fn := Tryz.f113) (n := 26) (rs := [.tmp 4]) (by kernel_rfl) rfl rfl rfl ok113 (Nat.le_of_ble_eq_true rfl) ?_
  simp (maxSteps := 400000) only [hw, hx, hlt, go_sem, simprocAttr]
  refine WDQ_pure (cHrName1 x) rfl ?_
  simp (maxSteps := 400000) only [go_sem, simprocAttr]
  refine WF_pure (cWaxName x.name) rfl ?_
  simp (maxSteps := 400000) only [go_sem, simprocAttr]
  cases hn : nameOk x.name
  · simp (maxSteps := 400000) only [go_sem, simprocAttr]
    simp [namedErr, hn]
  · simp (maxSteps := 400000) only [hle, htk, hfl, go_sem, simprocAttr]
    refine WF_frz (cContainsFunc4 (fv := .func (.func 136) [] [.ptr 1 [.func (.func 114) [] []] 0 0, .ptr 1 [.str x.name] 0 0]) l (fun y => y.name == x.name) false 5 rfl (by omega) fun y _ => ⟨_, _, _, rfl, cHrSame1 x.name y⟩) ?_ (.bool _) ?_
    · simp (maxSteps := 400000) only [go_sem, simprocAttr]
    simp (maxSteps := 400000) only [go_sem, simprocAttr]
    refine WB_split (fun hb => ?_) (fun hb => ?_) <;> simp (maxSteps := 400000) only [hb, go_sem, simprocAttr]
    · simp only [namedErr, hn, List.any_map, Function.comp_def, hb, if_true]
    · simp only [namedErr, hn, List.any_map, Function.comp_def, hb, if_true, Bool.false_eq_true, if_false]
def hrKindBase (k : HrKind) : Int :=
  if (gIn k.weight.lo 1 10000000 && gIn k.weight.hi 1 10000000 && gIn k.rest 0 10000000) = true then (if (decide (k.weight.hi < k.weight.lo) || decide (k.weight.lo ≤ k.rest)) = true then 2 else 0) else 7
def hrRuleBase (r : HrRule) : Int :=
  if (gIn r.minutes.lo 0 1000000 && gIn r.minutes.hi 0 1000000 && (gIn r.weight.lo 0 10000000 && gIn r.weight.hi 0 10000000)) = true then
    (if (decide (r.minutes.hi < r.minutes.lo) || decide (r.weight.hi < r.weight.lo)) = true then 2 else 0) else 7
def hrKindErr (before : List ByteArray) (k : HrKind) : Int := if namedErr before k.name = 0 then hrKindBase k else namedErr before k.name
def hrRuleErr (before : List ByteArray) (r : HrRule) : Int := if namedErr before r.name = 0 then hrRuleBase r else namedErr before r.name
def hrTail (s : HrShop) : Option (Int × Int) → Int × Int × Int
  | some (i, e) => (2, i, e)
  | none => match firstErr hrRuleErr (·.name) s.rules [] with | some (i, e) => (3, i, e) | none => (0, 0, 0)
def hrCheck (s : HrShop) : Int × Int × Int :=
  if (gIn s.kinds.length 1 6 && decide (s.rules.length ≤ 6)) = true then
    if gIn s.margin 0 500 = true then hrTail s (firstErr hrKindErr (·.name) s.kinds []) else (1, 0, 7)
  else (1, 0, 3)
theorem hrKind_at {s : HrShop} {done r : List HrKind} {x : HrKind} (_ : s.kinds = done ++ x :: r) (e2 : firstErr hrKindErr (·.name) s.kinds [] = firstErr hrKindErr (·.name) (x :: r) (done.map (·.name))) :
    (hrKindErr (done.map (·.name)) x = 0 → firstErr hrKindErr (·.name) s.kinds [] = firstErr hrKindErr (·.name) r ((done ++ [x]).map (·.name))) ∧
    ∀ e, hrKindErr (done.map (·.name)) x = e → e ≠ 0 → hrTail s (firstErr hrKindErr (·.name) s.kinds []) = (2, (done.length : Int), e) := by
  have hE : firstErr hrKindErr (·.name) s.kinds [] = if hrKindErr (done.map (·.name)) x = 0 then firstErr hrKindErr (·.name) r ((done ++ [x]).map (·.name)) else some ((done.length : Int), hrKindErr (done.map (·.name)) x) := by
    rw [e2, firstErr]; simp
  exact ⟨fun h => by rw [hE, if_pos h], fun e he hne => by rw [hE, he, if_neg hne]; rfl⟩
theorem hrRule_at {s : HrShop} {done r : List HrRule} {x : HrRule} (_ : s.rules = done ++ x :: r) (e2 : firstErr hrRuleErr (·.name) s.rules [] = firstErr hrRuleErr (·.name) (x :: r) (done.map (·.name))) :
    (hrRuleErr (done.map (·.name)) x = 0 → firstErr hrRuleErr (·.name) s.rules [] = firstErr hrRuleErr (·.name) r ((done ++ [x]).map (·.name))) ∧
    ∀ e, hrRuleErr (done.map (·.name)) x = e → e ≠ 0 → hrTail s none = (3, (done.length : Int), e) := by
  have hE : firstErr hrRuleErr (·.name) s.rules [] = if hrRuleErr (done.map (·.name)) x = 0 then firstErr hrRuleErr (·.name) r ((done ++ [x]).map (·.name)) else some ((done.length : Int), hrRuleErr (done.map (·.name)) x) := by
    rw [e2, firstErr]; simp
  exact ⟨fun h => by rw [hE, if_pos h], fun e he hne => by simp only [hrTail]; rw [hE, he, if_neg hne]⟩
set_option maxHeartbeats 1000000 in
theorem cHrCheck (s : HrShop) : PCall Tryz.prog 89 [s.pv] (triple (hrCheck s)) := by
  refine pcall_of_wp draws (fn := Tryz.f89) (n := 137) (rs := [.tmp 2, .tmp 3, .tmp 4]) (by kernel_rfl) rfl rfl rfl ok89 (Nat.le_of_ble_eq_true rfl) ?_
  simp (maxSteps := 400000) only [go_sem, simprocAttr]
  refine WF_pure (cHrOut 1 6 [_] true (by simp)) rfl ?_
  simp (maxSteps := 400000) only [List.any_cons, List.any_nil, Bool.or_false, go_sem, simprocAttr]
  cases h1 : gIn s.kinds.length 1 6
  · simp (maxSteps := 400000) only [triple, hrCheck, h1, go_sem, simprocAttr]
  simp (maxSteps := 400000) only [go_sem, simprocAttr]
  cases h2 : decide ((6 : Int) < (s.rules.length : Int))
  rotate_left
  · have h2' : decide (s.rules.length ≤ 6) = false := by simp at h2 ⊢; omega
    simp (maxSteps := 400000) only [triple, hrCheck, h1, h2', go_sem, simprocAttr]
  have h2' : decide (s.rules.length ≤ 6) = true := by simp at h2 ⊢; omega
  simp (maxSteps := 400000) only [go_sem, simprocAttr]
  refine WF_pure (cHrOut 0 500 [_] true (by simp)) rfl ?_
  simp (maxSteps := 400000) only [List.any_cons, List.any_nil, Bool.or_false, go_sem, simprocAttr]
  cases h3 : gIn s.margin 0 500
  · simp (maxSteps := 400000) only [triple, hrCheck, h1, h2', h3, go_sem, simprocAttr]
  have hspec : hrCheck s = hrTail s (firstErr hrKindErr (·.name) s.kinds []) := by simp only [hrCheck, h1, h2', h3, Bool.and_self, if_true]
  rw [hspec]
  have hlk : s.kinds.length ≤ 6 := by simp [gIn] at h1; omega
  have hlr : s.rules.length ≤ 6 := by simpa using h2'
  simp (maxSteps := 400000) only [go_sem, simprocAttr]
  refine W_rangeA [1, 27, 28] s.kinds (by omega) (τ := Unit) (fun done rest _ => firstErr hrKindErr (·.name) s.kinds [] = firstErr hrKindErr (·.name) rest (done.map (·.name)))
    (fun done _ => [(29, .p (.int .i64 done.length)), (4, .p (.int .i64 0))]) (fun _ _ => [.row 3 [.p s.pv]]) () rfl ?_ ?_ ?_
  · simp (maxSteps := 400000) only [go_sem, simprocAttr] <;> simp
  · intro _ e2
    have hT : hrTail s (firstErr hrKindErr (·.name) s.kinds []) = hrTail s none := by rw [e2]; rfl
    rw [hT]
    simp (maxSteps := 400000) only [go_sem, simprocAttr]
    refine W_rangeA [1, 80, 81] s.rules (by omega) (τ := Unit) (fun done rest _ => firstErr hrRuleErr (·.name) s.rules [] = firstErr hrRuleErr (·.name) rest (done.map (·.name)))
      (fun done _ => [(82, .p (.int .i64 done.length)), (4, .p (.int .i64 0))]) (fun _ _ => [.row 3 [.p s.pv]]) () rfl ?_ ?_ ?_
    · simp (maxSteps := 400000) only [go_sem, simprocAttr] <;> simp
    · intro _ e2
      have hT : hrTail s none = (0, 0, 0) := by
        simp only [hrTail]
        rw [e2]; rfl
      simp (maxSteps := 400000) only [triple, hT, go_sem, simprocAttr]
    · intro done x r _ e1 e2 hx hlt hnx
      obtain ⟨go, fin⟩ := hrRule_at e1 e2
      have hle : (((done ++ [x]).length : Nat) : Int) ≤ (s.rules.length : Int) := by rw [e1]; simp <;> omega
      have htk : (s.rules.map HrRule.pv).take (done ++ [x]).length = (done ++ [x]).map HrRule.pv := by
        rw [e1, show done ++ x :: r = (done ++ [x]) ++ r by simp, List.map_append, List.take_left' (by simp)]
      have hdl : done.length < 1000000 := by have := congrArg List.length e1; simp at this; omega
      simp (maxSteps := 400000) only [hlt, hx, hnx, hle, htk, go_sem, simprocAttr]
      refine WF_pure (cHrNamed1 done x false hdl) rfl ?_
      simp (maxSteps := 400000) only [go_sem, simprocAttr]
      cases h5 : (namedErr (done.map (·.name)) x.name != 0)
      rotate_left
      · have h5' : namedErr (done.map (·.name)) x.name ≠ 0 := by simpa using h5
        simp (maxSteps := 400000) only [h5, triple, fin _ (by rw [hrRuleErr, if_neg h5']) h5', go_sem, simprocAttr]
      have h5' : namedErr (done.map (·.name)) x.name = 0 := by simpa using h5
      have hb : hrRuleErr (done.map (·.name)) x = hrRuleBase x := by rw [hrRuleErr, if_pos h5']
      simp (maxSteps := 400000) only [go_sem, simprocAttr]
      refine WF_pure (cHrOut 0 1000000 [_, _] true (by simp)) rfl ?_
      simp (maxSteps := 400000) only [List.any_cons, List.any_nil, Bool.or_false, ← Bool.not_and, go_sem, simprocAttr]
      cases h6 : (gIn x.minutes.lo 0 1000000 && gIn x.minutes.hi 0 1000000)
      · simp (maxSteps := 400000) only [triple, fin 7 (by rw [hb, hrRuleBase, h6]; rfl) (by decide), go_sem, simprocAttr]
      simp (maxSteps := 400000) only [go_sem, simprocAttr]
      refine WF_pure (cHrOut 0 10000000 [_, _] true (by simp)) rfl ?_
      simp (maxSteps := 400000) only [List.any_cons, List.any_nil, Bool.or_false, ← Bool.not_and, go_sem, simprocAttr]
      cases h7 : (gIn x.weight.lo 0 10000000 && gIn x.weight.hi 0 10000000)
      · simp (maxSteps := 400000) only [triple, fin 7 (by rw [hb, hrRuleBase, h6, h7]; rfl) (by decide), go_sem, simprocAttr]
      simp (maxSteps := 400000) only [go_sem, simprocAttr]
      cases h8 : decide (x.minutes.hi < x.minutes.lo)
      rotate_left
      · simp (maxSteps := 400000) only [triple, fin 2 (by rw [hb, hrRuleBase, h6, h7, h8]; rfl) (by decide), go_sem, simprocAttr]
      simp (maxSteps := 400000) only [go_sem, simprocAttr]
      cases h9 : decide (x.weight.hi < x.weight.lo)
      rotate_left
      · simp (maxSteps := 400000) only [triple, fin 2 (by rw [hb, hrRuleBase, h6, h7, h8, h9]; rfl) (by decide), go_sem, simprocAttr]
      simp (maxSteps := 400000) only [h5, h5', go_sem, simprocAttr]
      refine WQ_next e1 () (go (by rw [hb, hrRuleBase, h6, h7, h8, h9]; rfl)) ?_
      simp (maxSteps := 400000) only [hnx, h5', go_sem, simprocAttr]
  · intro done x r _ e1 e2 hx hlt hnx
    obtain ⟨go, fin⟩ := hrKind_at e1 e2
    have hle : (((done ++ [x]).length : Nat) : Int) ≤ (s.kinds.length : Int) := by rw [e1]; simp <;> omega
    have htk : (s.kinds.map HrKind.pv).take (done ++ [x]).length = (done ++ [x]).map HrKind.pv := by
      rw [e1, show done ++ x :: r = (done ++ [x]) ++ r by simp, List.map_append, List.take_left' (by simp)]
    have hdl : done.length < 1000000 := by have := congrArg List.length e1; simp at this; omega
    simp (maxSteps := 400000) only [hlt, hx, hnx, hle, htk, go_sem, simprocAttr]
    refine WF_pure (cHrNamed0 done x false hdl) rfl ?_
    simp (maxSteps := 400000) only [go_sem, simprocAttr]
    cases h5 : (namedErr (done.map (·.name)) x.name != 0)
    rotate_left
    · have h5' : namedErr (done.map (·.name)) x.name ≠ 0 := by simpa using h5
      simp (maxSteps := 400000) only [h5, triple, fin _ (by rw [hrKindErr, if_neg h5']) h5', go_sem, simprocAttr]
    have h5' : namedErr (done.map (·.name)) x.name = 0 := by simpa using h5
    have hb : hrKindErr (done.map (·.name)) x = hrKindBase x := by rw [hrKindErr, if_pos h5']
    simp (maxSteps := 400000) only [go_sem, simprocAttr]
    refine WF_pure (cHrOut 1 10000000 [_, _] true (by simp)) rfl ?_
    simp (maxSteps := 400000) only [List.any_cons, List.any_nil, Bool.or_false, ← Bool.not_and, go_sem, simprocAttr]
    cases h6 : (gIn x.weight.lo 1 10000000 && gIn x.weight.hi 1 10000000)
    · simp (maxSteps := 400000) only [triple, fin 7 (by rw [hb, hrKindBase, h6]; rfl) (by decide), go_sem, simprocAttr]
    simp (maxSteps := 400000) only [go_sem, simprocAttr]
    refine WF_pure (cHrOut 0 10000000 [_] true (by simp)) rfl ?_
    simp (maxSteps := 400000) only [List.any_cons, List.any_nil, Bool.or_false, go_sem, simprocAttr]
    cases h7 : gIn x.rest 0 10000000
    · simp (maxSteps := 400000) only [triple, fin 7 (by rw [hb, hrKindBase, h6, h7]; rfl) (by decide), go_sem, simprocAttr]
    simp (maxSteps := 400000) only [go_sem, simprocAttr]
    cases h8 : decide (x.weight.hi < x.weight.lo)
    rotate_left
    · simp (maxSteps := 400000) only [triple, fin 2 (by rw [hb, hrKindBase, h6, h7, h8]; rfl) (by decide), go_sem, simprocAttr]
    simp (maxSteps := 400000) only [go_sem, simprocAttr]
    cases h9 : decide (x.weight.lo ≤ x.rest)
    rotate_left
    · simp (maxSteps := 400000) only [triple, fin 2 (by rw [hb, hrKindBase, h6, h7, h8, h9]; rfl) (by decide), go_sem, simprocAttr]
    simp (maxSteps := 400000) only [h5, h5', go_sem, simprocAttr]
    refine WQ_next e1 () (go (by rw [hb, hrKindBase, h6, h7, h8, h9]; rfl)) ?_
    simp (maxSteps := 400000) only [hnx, h5', go_sem, simprocAttr]
end Abs
end Go.Proofs.YtbojkcmohgbpaaaGreatDoor
