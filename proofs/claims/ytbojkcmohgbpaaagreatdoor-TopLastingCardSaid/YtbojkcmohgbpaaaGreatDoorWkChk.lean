/-
  CONTRACTS: what is checked of a shop, in the program and in the reference: both come to 'checkSpec'.
  CONTRACTS: Check, in the program and in the reference: both come to 'checkSpec'.
  CONTRACTS: Check of the reference comes to 'checkSpec'.
-/
import Derived.Test.YtbojkcmohgbpaaaGreatDoorLibGoX
namespace Go.Proofs.YtbojkcmohgbpaaaGreatDoor
namespace Abs
namespace Wk
set_option linter.unusedSimpArgs false
set_option maxRecDepth 4000
theorem cOut1 (lo hi n : Int) : PCall Tryz.prog 79 [.int .i64 n, .ptr 1 [.int .i64 lo] 0 0, .ptr 1 [.int .i64 hi] 0 0] (.bool (!gIn n lo hi)) := by
  refine pcall_of_wp draws (fn := Tryz.f79) (n := 13) (rs := [.tmp 4]) (by kernel_rfl) rfl rfl rfl ok79 (Nat.le_of_ble_eq_true rfl) ?_
  simp (maxSteps := 400000) only [go_sem, simprocAttr]
  refine WB_split (fun hb => ?_) (fun hb => ?_) <;> simp (maxSteps := 400000) only [hb, go_sem, simprocAttr] <;> simp_all [gIn]
  rw [← decide_not]; congr 1; simp
theorem cOut (lo hi : Int) (l : List Int) (b : Bool) (hl : l.length < 1000000000) : PCall Tryz.prog 41 [.int .i64 lo, .int .i64 hi, .slice 1 (l.map intPV) b] (.bool (l.any fun n => !gIn n lo hi)) := by
  refine pcall_of_wp draws (fn := Tryz.f41) (n := 10) (rs := [.tmp 6]) (by kernel_rfl) rfl rfl rfl ok41 (Nat.le_of_ble_eq_true rfl) ?_
  simp (maxSteps := 400000) only [go_sem, simprocAttr]
  refine WF_frz (cContainsFunc0 (fv := .func (.func 79) [] [.ptr 1 [.int .i64 lo] 0 0, .ptr 1 [.int .i64 hi] 0 0]) l (fun n => !gIn n lo hi) b 1 rfl hl fun n _ => ⟨_, _, _, rfl, cOut1 lo hi n⟩) ?_ (.bool _) ?_
  · simp (maxSteps := 400000) only [go_sem, simprocAttr]
  · simp (maxSteps := 400000) only [go_sem, simprocAttr]
theorem cTurned1 (s : Span) : PCall Tryz.prog 109 [s.pv] (.bool (decide (s.hi < s.lo))) := by
  refine pcall_of_wp draws (fn := Tryz.f109) (n := 8) (rs := [.tmp 2]) (by kernel_rfl) rfl rfl rfl ok109 (Nat.le_of_ble_eq_true rfl) ?_
  simp (maxSteps := 400000) only [go_sem, simprocAttr]
theorem cTurned (l : List Span) (b : Bool) (hl : l.length < 1000000000) : PCall Tryz.prog 77 [.slice 2 (l.map Span.pv) b] (.bool (l.any fun s => decide (s.hi < s.lo))) := by
  refine pcall_of_wp draws (fn := Tryz.f77) (n := 5) (rs := [.tmp 2]) (by kernel_rfl) rfl rfl rfl ok77 (Nat.le_of_ble_eq_true rfl) ?_
  simp (maxSteps := 400000) only [go_sem, simprocAttr]
  refine WF_pure (cContainsFunc1 (fv := .func (.func 109) [] []) l (fun s => decide (s.hi < s.lo)) b 2 rfl hl fun s _ => ⟨_, _, _, rfl, cTurned1 s⟩) rfl ?_
  simp (maxSteps := 400000) only [go_sem, simprocAttr]
theorem cName0 (x : Wick) : PCall Tryz.prog 105 [x.pv] (.str x.name) := by
  refine pcall_of_wp draws (fn := Tryz.f105) (n := 5) (rs := [.tmp 2]) (by kernel_rfl) rfl rfl rfl ok105 (Nat.le_of_ble_eq_true rfl) ?_
  simp (maxSteps := 400000) only [go_sem, simprocAttr]
theorem cSame0 (s : ByteArray) (x : Wick) : PCall Tryz.prog 129 [x.pv, .ptr 1 [.func (.func 105) [] []] 0 0, .ptr 1 [.str s] 0 0] (.bool (x.name == s)) := by
  refine pcall_of_wp draws (fn := Tryz.f129) (n := 10) (rs := [.tmp 4]) (by kernel_rfl) rfl rfl rfl ok129 (Nat.le_of_ble_eq_true rfl) ?_
  simp (maxSteps := 400000) only [go_sem, simprocAttr]
  refine WDQ_pure (cName0 x) rfl ?_
  simp (maxSteps := 400000) only [go_sem, simprocAttr]
theorem cNamed0 (l : List Wick) (x : Wick) (b : Bool) (hl : l.length < 1000000) : PCall Tryz.prog 104 [.slice 4 ((l ++ [x]).map Wick.pv) b, .func (.func 105) [] []] (.int .i64 (namedErr (l.map (·.name)) x.name)) := by
  have hw : IntKind.i64.wrap ((((l ++ [x]).length : Nat) : Int) - 1) = ((l.length : Nat) : Int) := by
    rw [wrap_small (by simp <;> omega) (by simp [room] <;> omega)]; simp
  have hx : (l ++ [x])[l.length]? = some x := by simp
  have hlt : ((l.length : Nat) : Int) < (((l ++ [x]).length : Nat) : Int) := by simp <;> omega
  have hle : ((l.length : Nat) : Int) ≤ (((l ++ [x]).length : Nat) : Int) := by omega
  have htk : ((l ++ [x]).map Wick.pv).take l.length = l.map Wick.pv := by rw [List.map_append, List.take_left' (by simp)]
  have hfl : (l.length == (l ++ [x]).length) = false := by simp
  refine pcall_of_wp draws (fn := Tryz.f104) (n := 26) (rs := [.tmp 4]) (by kernel_rfl) rfl rfl rfl ok104 (Nat.le_of_ble_eq_true rfl) ?_
  simp (maxSteps := 400000) only [hw, hx, hlt, go_sem, simprocAttr]
  refine WDQ_pure (cName0 x) rfl ?_
  simp (maxSteps := 400000) only [go_sem, simprocAttr]
  refine WF_pure (cWaxName x.name) rfl ?_
  simp (maxSteps := 400000) only [go_sem, simprocAttr]
  cases hn : nameOk x.name
  · simp (maxSteps := 400000) only [go_sem, simprocAttr]
    simp [namedErr, hn]
  · simp (maxSteps := 400000) only [hle, Option.getD_none, Option.getD_some, htk, hfl, go_sem, simprocAttr]
    refine WF_frz (cContainsFunc5 (fv := .func (.func 129) [] [.ptr 1 [.func (.func 105) [] []] 0 0, .ptr 1 [.str x.name] 0 0]) l (fun y => y.name == x.name) false 4 rfl (by omega) fun y _ => ⟨_, _, _, rfl, cSame0 x.name y⟩) ?_ (.bool _) ?_
    · simp (maxSteps := 400000) only [go_sem, simprocAttr]
    simp (maxSteps := 400000) only [go_sem, simprocAttr]
    refine WB_split (fun hb => ?_) (fun hb => ?_) <;> simp (maxSteps := 400000) only [hb, go_sem, simprocAttr]
    · simp only [namedErr, hn, List.any_map, Function.comp_def, hb, if_true]
    · simp only [namedErr, hn, List.any_map, Function.comp_def, hb, if_true, Bool.false_eq_true, if_false]
theorem cName1 (x : Wax) : PCall Tryz.prog 107 [x.pv] (.str x.name) := by
  refine pcall_of_wp draws (fn := Tryz.f107) (n := 5) (rs := [.tmp 2]) (by kernel_rfl) rfl rfl rfl ok107 (Nat.le_of_ble_eq_true rfl) ?_
  simp (maxSteps := 400000) only [go_sem, simprocAttr]
theorem cSame1 (s : ByteArray) (x : Wax) : PCall Tryz.prog 131 [x.pv, .ptr 1 [.func (.func 107) [] []] 0 0, .ptr 1 [.str s] 0 0] (.bool (x.name == s)) := by
  refine pcall_of_wp draws (fn := Tryz.f131) (n := 10) (rs := [.tmp 4]) (by kernel_rfl) rfl rfl rfl ok131 (Nat.le_of_ble_eq_true rfl) ?_
  simp (maxSteps := 400000) only [go_sem, simprocAttr]
  refine WDQ_pure (cName1 x) rfl ?_
  simp (maxSteps := 400000) only [go_sem, simprocAttr]
theorem cNamed1 (l : List Wax) (x : Wax) (b : Bool) (hl : l.length < 1000000) : PCall Tryz.prog 106 [.slice 8 ((l ++ [x]).map Wax.pv) b, .func (.func 107) [] []] (.int .i64 (namedErr (l.map (·.name)) x.name)) := by
  have hw : IntKind.i64.wrap ((((l ++ [x]).length : Nat) : Int) - 1) = ((l.length : Nat) : Int) := by
    rw [wrap_small (by simp <;> omega) (by simp [room] <;> omega)]; simp
  have hx : (l ++ [x])[l.length]? = some x := by simp
  have hlt : ((l.length : Nat) : Int) < (((l ++ [x]).length : Nat) : Int) := by simp <;> omega
  have hle : ((l.length : Nat) : Int) ≤ (((l ++ [x]).length : Nat) : Int) := by omega
  have htk : ((l ++ [x]).map Wax.pv).take l.length = l.map Wax.pv := by rw [List.map_append, List.take_left' (by simp)]
  have hfl : (l.length == (l ++ [x]).length) = false := by simp
  refine pcall_of_wp draws (fn := Tryz.f106) (n := 26) (rs := [.tmp 4]) (by kernel_rfl) rfl rfl rfl ok106 (Nat.le_of_ble_eq_true rfl) ?_
  simp (maxSteps := 400000) only [hw, hx, hlt, go_sem, simprocAttr]
  refine WDQ_pure (cName1 x) rfl ?_
  simp (maxSteps := 400000) only [go_sem, simprocAttr]
  refine WF_pure (cWaxName x.name) rfl ?_
  simp (maxSteps := 400000) only [go_sem, simprocAttr]
  cases hn : nameOk x.name
  · simp (maxSteps := 400000) only [go_sem, simprocAttr]
    simp [namedErr, hn]
  · simp (maxSteps := 400000) only [hle, Option.getD_none, Option.getD_some, htk, hfl, go_sem, simprocAttr]
    refine WF_frz (cContainsFunc6 (fv := .func (.func 131) [] [.ptr 1 [.func (.func 107) [] []] 0 0, .ptr 1 [.str x.name] 0 0]) l (fun y => y.name == x.name) false 8 rfl (by omega) fun y _ => ⟨_, _, _, rfl, cSame1 x.name y⟩) ?_ (.bool _) ?_
    · simp (maxSteps := 400000) only [go_sem, simprocAttr]
    simp (maxSteps := 400000) only [go_sem, simprocAttr]
    refine WB_split (fun hb => ?_) (fun hb => ?_) <;> simp (maxSteps := 400000) only [hb, go_sem, simprocAttr]
    · simp only [namedErr, hn, List.any_map, Function.comp_def, hb, if_true]
    · simp only [namedErr, hn, List.any_map, Function.comp_def, hb, if_true, Bool.false_eq_true, if_false]
theorem hMust (b : Bool) (e : Int) (h : Heap) : HCall Tryz.prog 103 [.p (.bool b), .p (.int .i64 e)] h (fun r h' => h' = h ∧ r = if b = true then .ret (.p (.tuple [])) else .panic (.iface 35 (.int .i64 e))) := by
  refine hcall_of_wp draws (fn := Tryz.f103) (n := 8) (rs := []) (by kernel_rfl) rfl rfl rfl ok103 (Nat.le_of_ble_eq_true rfl) ?_
  simp (maxSteps := 400000) only [go_sem, simprocAttr]
  cases b
  · simp (maxSteps := 400000) only [go_sem, simprocAttr]
  · simp (maxSteps := 400000) only [go_sem, simprocAttr]
theorem WF_must {H : Hints} {Q : Cont} {ops : Array Oper} {rest : List Oper} {dst : Option Tmp} {A : AAct} {b : Bool} {e : Int} (h1 : b = true → @WO ⟨Tryz.prog, H, ops, rest, Q⟩ (A.put dst (.p (.tuple [])) A.h))
    (h2 : b = false → @WQ ⟨Q⟩ (.panic (.iface 35 (.int .i64 e))) A) : @WF ⟨Tryz.prog, H, ops, rest, Q, dst⟩ A 103 [.p (.bool b), .p (.int .i64 e)] := by
  refine WF_call (hMust b e A.h) (fun v h hr => ?_) (fun v h hr => ?_)
  · obtain ⟨rfl, hr⟩ := hr
    cases b
    · cases hr
    · cases hr; exact h1 rfl
  · obtain ⟨rfl, hr⟩ := hr
    cases b
    · cases hr; exact h2 rfl
    · cases hr
theorem dRec {id : Nat} {e e0 : Int} {h : Heap} (hid : h[id]? = some (.row 1 [.p (.int .i64 e0)])) : DCall Tryz.prog 102 [.ptr id 1 0 0] (.pan (.iface 35 (.int .i64 e))) h
    (fun r u h' => r = .ret (.p (.tuple [])) ∧ u = .recd (.iface 35 (.int .i64 e)) ∧ h' = h.set id (.row 1 [.p (.int .i64 e)])) := by
  refine dcall_of_wp draws (fn := Tryz.f102) (n := 7) (rs := []) (by kernel_rfl) rfl rfl rfl ok102 (Nat.le_of_ble_eq_true rfl) ?_
  simp (maxSteps := 400000) only [rcOf, modeOf, hid, go_sem, simprocAttr]
theorem dNo {id : Nat} {h : Heap} : DCall Tryz.prog 102 [.ptr id 1 0 0] .ret h (fun r u h' => r = .ret (.p (.tuple [])) ∧ u = .ret ∧ h' = h) := by
  refine dcall_of_wp draws (fn := Tryz.f102) (n := 7) (rs := []) (by kernel_rfl) rfl rfl rfl ok102 (Nat.le_of_ble_eq_true rfl) ?_
  simp (maxSteps := 400000) only [rcOf, modeOf, go_sem, simprocAttr]
theorem leave_rec {rs : List ResultVar} {R : AEnd → Heap → Prop} {T : Nat → AV} {id : Nat} {e e0 : Int} {h : Heap} (hid : h[id]? = some (.row 1 [.p (.int .i64 e0)])) (k : aLeave Tryz.prog rs R T [] .ret (h.set id (.row 1 [.p (.int .i64 e)]))) :
    aLeave Tryz.prog rs R T [.fn 102 [.ptr id 1 0 0]] (.pan (.iface 35 (.int .i64 e))) h := by
  rw [leave_fn]
  refine (dRec hid).mono fun r u h' hr => ?_
  obtain ⟨rfl, rfl, rfl⟩ := hr
  exact k
theorem leave_no {rs : List ResultVar} {R : AEnd → Heap → Prop} {T : Nat → AV} {id : Nat} {h : Heap} (k : aLeave Tryz.prog rs R T [] .ret h) : aLeave Tryz.prog rs R T [.fn 102 [.ptr id 1 0 0]] .ret h := by
  rw [leave_fn]
  refine dNo.mono fun r u h' hr => ?_
  obtain ⟨rfl, rfl, rfl⟩ := hr
  exact k
def inS (s : Span) (lo hi : Int) : Bool := gIn s.lo lo hi && gIn s.hi lo hi
def turnedS (s : Span) : Bool := decide (s.hi < s.lo)
def wickErr (before : List ByteArray) (x : Wick) : Int :=
  if namedErr before x.name = 0 then (if (gIn x.threads 1 100 && inS x.pull 1 1000) = true then (if turnedS x.pull = true then 2 else 0) else 7) else namedErr before x.name
def waxErr (before : List ByteArray) (x : Wax) : Int :=
  if namedErr before x.name = 0 then (if (gIn x.chill 0 50 && inS x.flow 1 300 && (inS x.rise 1 1000 && inS x.spread 1 2000)) = true then (if (turnedS x.flow || (turnedS x.rise || turnedS x.spread)) = true then 2 else 0) else 7) else namedErr before x.name
def checkTail (s : Shop) : Option (Int × Int) → Int × Int × Int
  | some (i, e) => (2, i, e)
  | none => match firstErr waxErr (·.name) s.waxes [] with | some (i, e) => (3, i, e) | none => (0, 0, 0)
def checkSpec (s : Shop) : Int × Int × Int :=
  if (gIn s.wicks.length 1 12 && gIn s.waxes.length 1 6) = true then
    if (inS s.flame 0 2000 && inS s.pool 0 2000) = true then
      if (turnedS s.flame || turnedS s.pool) = true then (1, 0, 2) else checkTail s (firstErr wickErr (·.name) s.wicks [])
    else (1, 0, 7)
  else (1, 0, 3)
theorem cCheck (s : Shop) : PCall Tryz.prog 76 [s.pv] (triple (checkSpec s)) := by
  refine pcall_of_wp draws (fn := Tryz.f76) (n := 160) (rs := [.tmp 2, .tmp 3, .cell 4 35]) (by kernel_rfl) rfl rfl rfl ok76 (Nat.le_of_ble_eq_true rfl) ?_
  simp (maxSteps := 400000) only [go_sem, simprocAttr]
  refine WF_pure (cOut 1 12 [_] true (by simp)) rfl ?_
  simp (maxSteps := 400000) only [List.any_cons, List.any_nil, Bool.or_false, Bool.not_not, go_sem, simprocAttr]
  cases h1 : gIn s.wicks.length 1 12
  · simp (maxSteps := 400000) only [go_sem, simprocAttr]
    refine WF_must (fun h => (by cases h)) fun _ => ?_
    simp (maxSteps := 400000) only [go_sem, simprocAttr]
    refine leave_rec rfl ?_
    simp (maxSteps := 400000) only [triple, checkSpec, h1, go_sem, simprocAttr]
  simp (maxSteps := 400000) only [go_sem, simprocAttr]
  refine WF_pure (cOut 1 6 [_] true (by simp)) rfl ?_
  simp (maxSteps := 400000) only [List.any_cons, List.any_nil, Bool.or_false, Bool.not_not, go_sem, simprocAttr]
  refine WF_must (fun h2 => ?_) fun h2 => ?_
  rotate_left
  · simp (maxSteps := 400000) only [go_sem, simprocAttr]
    refine leave_rec rfl ?_
    simp (maxSteps := 400000) only [triple, checkSpec, h1, h2, go_sem, simprocAttr]
  simp (maxSteps := 400000) only [go_sem, simprocAttr]
  refine WF_pure (cOut 0 2000 [_, _, _, _] true (by simp)) rfl ?_
  simp (maxSteps := 400000) only [List.any_cons, List.any_nil, Bool.or_false, ← Bool.not_and, Bool.not_not, go_sem, simprocAttr]
  refine WF_must (fun h3 => ?_) fun h3 => ?_
  rotate_left
  · simp (maxSteps := 400000) only [go_sem, simprocAttr]
    refine leave_rec rfl ?_
    have h3' : (inS s.flame 0 2000 && inS s.pool 0 2000) = false := by rw [← h3]; simp [inS, Bool.and_assoc]
    simp (maxSteps := 400000) only [triple, checkSpec, h1, h2, h3', go_sem, simprocAttr]
  have h3' : (inS s.flame 0 2000 && inS s.pool 0 2000) = true := by rw [← h3]; simp [inS, Bool.and_assoc]
  simp (maxSteps := 400000) only [go_sem, simprocAttr]
  refine WF_pure (cTurned [s.flame, s.pool] true (by simp)) rfl ?_
  simp (maxSteps := 400000) only [List.any_cons, List.any_nil, Bool.or_false, go_sem, simprocAttr]
  refine WF_must (fun h4 => ?_) fun h4 => ?_
  rotate_left
  · simp (maxSteps := 400000) only [go_sem, simprocAttr]
    refine leave_rec rfl ?_
    have h4' : (turnedS s.flame || turnedS s.pool) = true := (by have := congrArg (!·) h4; simpa only [turnedS, Bool.not_not, Bool.not_false] using this)
    simp (maxSteps := 400000) only [triple, checkSpec, h1, h2, h3', h4', go_sem, simprocAttr]
  have h4' : (turnedS s.flame || turnedS s.pool) = false := by simpa [turnedS] using h4
  have hspec : checkSpec s = checkTail s (firstErr wickErr (·.name) s.wicks []) := by
    simp [checkSpec, h1, h2, h3', h4']
  rw [hspec]
  have hlw : s.wicks.length ≤ 12 := by simp [gIn] at h1; omega
  have hlx : s.waxes.length ≤ 6 := by simp [gIn] at h2; omega
  simp (maxSteps := 400000) only [go_sem, simprocAttr]
  refine W_loopA [1, 2, 4, 50, 51] (σ := List Wick × List Wick) (fun q => s.wicks = q.1 ++ q.2 ∧ firstErr wickErr (·.name) s.wicks [] = firstErr wickErr (·.name) q.2 (q.1.map (·.name))) (fun q => q.2.length)
    (fun q => [(52, .p (.int .i64 q.1.length))]) (fun _ => [.row 6 [.p s.pv], .row 1 [.p (.int .i64 0)]]) ([], s.wicks) ⟨rfl, rfl⟩ ?_ ?_
  · simp (maxSteps := 400000) only [go_sem, simprocAttr] <;> simp
  rintro ⟨done, rest⟩ ⟨e1, e2⟩
  dsimp only at e1 e2
  cases rest with
  | cons x r =>
    obtain ⟨hx, hlt⟩ := list_at e1
    have hln : (done ++ [x]).length ≤ s.wicks.length := by rw [e1]; simp
    have hdl : done.length < 12 := by simp at hln; omega
    have hnx : IntKind.i64.wrap ((done.length : Int) + 1) = (((done ++ [x]).length : Nat) : Int) := wrap_add (by omega) (by simp [room]; omega) (by simp)
    have hle : (((done ++ [x]).length : Nat) : Int) ≤ (s.wicks.length : Int) := by omega
    have htk : (s.wicks.map Wick.pv).take (done ++ [x]).length = (done ++ [x]).map Wick.pv := by
      rw [e1, show done ++ x :: r = (done ++ [x]) ++ r by simp, List.map_append, List.take_left' (by simp)]
    have hE : firstErr wickErr (·.name) s.wicks [] = if wickErr (done.map (·.name)) x = 0 then firstErr wickErr (·.name) r ((done ++ [x]).map (·.name)) else some ((done.length : Int), wickErr (done.map (·.name)) x) := by
      rw [e2, firstErr]; simp
    have fin : ∀ e, wickErr (done.map (·.name)) x = e → e ≠ 0 → checkTail s (firstErr wickErr (·.name) s.wicks []) = (2, (done.length : Int), e) := by
      intro e he hne
      rw [hE, he, if_neg hne]; rfl
    simp (maxSteps := 400000) only [hlt, decide_true, hx, hnx, hle, Option.getD_none, Option.getD_some, htk, go_sem, simprocAttr]
    refine WF_pure (cNamed0 done x false (by omega)) rfl ?_
    simp (maxSteps := 400000) only [go_sem, simprocAttr]
    refine WF_must (fun h5 => ?_) fun h5 => ?_
    rotate_left
    · simp (maxSteps := 400000) only [go_sem, simprocAttr]
      refine leave_rec rfl ?_
      have h5' : namedErr (done.map (·.name)) x.name ≠ 0 := by simpa using h5
      simp (maxSteps := 400000) only [triple, fin _ (by rw [wickErr, if_neg h5']) h5', go_sem, simprocAttr]
    have h5' : namedErr (done.map (·.name)) x.name = 0 := by simpa using h5
    simp (maxSteps := 400000) only [go_sem, simprocAttr]
    refine WF_pure (cOut 1 100 [_] true (by simp)) rfl ?_
    simp (maxSteps := 400000) only [List.any_cons, List.any_nil, Bool.or_false, Bool.not_not, go_sem, simprocAttr]
    cases h6 : gIn x.threads 1 100
    · simp (maxSteps := 400000) only [go_sem, simprocAttr]
      refine WF_must (fun h => (by cases h)) fun _ => ?_
      simp (maxSteps := 400000) only [go_sem, simprocAttr]
      refine leave_rec rfl ?_
      simp (maxSteps := 400000) only [triple, fin 7 (by simp [wickErr, h5', h6]) (by decide), go_sem, simprocAttr]
    simp (maxSteps := 400000) only [go_sem, simprocAttr]
    refine WF_pure (cOut 1 1000 [_, _] true (by simp)) rfl ?_
    simp (maxSteps := 400000) only [List.any_cons, List.any_nil, Bool.or_false, ← Bool.not_and, Bool.not_not, go_sem, simprocAttr]
    refine WF_must (fun h7 => ?_) fun h7 => ?_
    rotate_left
    · simp (maxSteps := 400000) only [go_sem, simprocAttr]
      refine leave_rec rfl ?_
      simp (maxSteps := 400000) only [triple, fin 7 (by simp [wickErr, h5', h6, inS, h7]) (by decide), go_sem, simprocAttr]
    simp (maxSteps := 400000) only [go_sem, simprocAttr]
    refine WF_pure (cTurned [x.pull] true (by simp)) rfl ?_
    simp (maxSteps := 400000) only [List.any_cons, List.any_nil, Bool.or_false, go_sem, simprocAttr]
    refine WF_must (fun h8 => ?_) fun h8 => ?_
    rotate_left
    · simp (maxSteps := 400000) only [go_sem, simprocAttr]
      refine leave_rec rfl ?_
      simp (maxSteps := 400000) only [triple, fin 2 (by simp only [Bool.not_eq_false'] at h8; simp [wickErr, h5', h6, inS, h7, turnedS, h8]) (by decide), go_sem, simprocAttr]
    simp (maxSteps := 400000) only [go_sem, simprocAttr]
    refine WQ_headA (done ++ [x], r) ⟨by simp [e1], ?_⟩ (by simp) ?_
    · rw [hE, if_pos]
      simp only [Bool.not_eq_true'] at h8
      simp [wickErr, h5', h6, inS, h7, turnedS, h8]
    · simp (maxSteps := 400000) only [hnx, h5', go_sem, simprocAttr]
  | nil =>
    have hlt : ¬ ((done.length : Int) < (s.wicks.length : Int)) := by rw [e1]; simp
    have hT : checkTail s (firstErr wickErr (·.name) s.wicks []) = checkTail s none := by rw [e2]; rfl
    rw [hT]
    simp (maxSteps := 400000) only [hlt, decide_false, go_sem, simprocAttr]
    refine W_loopA [1, 2, 4, 93, 94] (σ := List Wax × List Wax) (fun q => s.waxes = q.1 ++ q.2 ∧ firstErr waxErr (·.name) s.waxes [] = firstErr waxErr (·.name) q.2 (q.1.map (·.name))) (fun q => q.2.length)
      (fun q => [(95, .p (.int .i64 q.1.length))]) (fun _ => [.row 6 [.p s.pv], .row 1 [.p (.int .i64 0)]]) ([], s.waxes) ⟨rfl, rfl⟩ ?_ ?_
    · simp (maxSteps := 400000) only [go_sem, simprocAttr] <;> simp
    clear e1 e2 hlt hT
    rintro ⟨done, rest⟩ ⟨e1, e2⟩
    dsimp only at e1 e2
    cases rest with
    | cons x r =>
      obtain ⟨hx, hlt⟩ := list_at e1
      have hln : (done ++ [x]).length ≤ s.waxes.length := by rw [e1]; simp
      have hdl : done.length < 12 := by simp at hln; omega
      have hnx : IntKind.i64.wrap ((done.length : Int) + 1) = (((done ++ [x]).length : Nat) : Int) := wrap_add (by omega) (by simp [room]; omega) (by simp)
      have hle : (((done ++ [x]).length : Nat) : Int) ≤ (s.waxes.length : Int) := by omega
      have htk : (s.waxes.map Wax.pv).take (done ++ [x]).length = (done ++ [x]).map Wax.pv := by
        rw [e1, show done ++ x :: r = (done ++ [x]) ++ r by simp, List.map_append, List.take_left' (by simp)]
      have hE : firstErr waxErr (·.name) s.waxes [] = if waxErr (done.map (·.name)) x = 0 then firstErr waxErr (·.name) r ((done ++ [x]).map (·.name)) else some ((done.length : Int), waxErr (done.map (·.name)) x) := by
        rw [e2, firstErr]; simp
      have fin : ∀ e, waxErr (done.map (·.name)) x = e → e ≠ 0 → checkTail s none = (3, (done.length : Int), e) := by
        intro e he hne
        simp only [checkTail]
        rw [hE, he, if_neg hne]
      simp (maxSteps := 400000) only [hlt, decide_true, hx, hnx, hle, Option.getD_none, Option.getD_some, htk, go_sem, simprocAttr]
      refine WF_pure (cNamed1 done x false (by omega)) rfl ?_
      simp (maxSteps := 400000) only [go_sem, simprocAttr]
      refine WF_must (fun h5 => ?_) fun h5 => ?_
      rotate_left
      · simp (maxSteps := 400000) only [go_sem, simprocAttr]
        refine leave_rec rfl ?_
        have h5' : namedErr (done.map (·.name)) x.name ≠ 0 := by simpa using h5
        simp (maxSteps := 400000) only [triple, fin _ (by rw [waxErr, if_neg h5']) h5', go_sem, simprocAttr]
      have h5' : namedErr (done.map (·.name)) x.name = 0 := by simpa using h5
      simp (maxSteps := 400000) only [go_sem, simprocAttr]
      refine WF_pure (cOut 0 50 [_] true (by simp)) rfl ?_
      simp (maxSteps := 400000) only [List.any_cons, List.any_nil, Bool.or_false, Bool.not_not, go_sem, simprocAttr]
      cases h6 : gIn x.chill 0 50
      · simp (maxSteps := 400000) only [go_sem, simprocAttr]
        refine WF_must (fun h => (by cases h)) fun _ => ?_
        simp (maxSteps := 400000) only [go_sem, simprocAttr]
        refine leave_rec rfl ?_
        simp (maxSteps := 400000) only [triple, fin 7 (by simp [waxErr, h5', h6]) (by decide), go_sem, simprocAttr]
      simp (maxSteps := 400000) only [go_sem, simprocAttr]
      refine WF_pure (cOut 1 300 [_, _] true (by simp)) rfl ?_
      simp (maxSteps := 400000) only [List.any_cons, List.any_nil, Bool.or_false, ← Bool.not_and, Bool.not_not, go_sem, simprocAttr]
      refine WF_must (fun h7 => ?_) fun h7 => ?_
      rotate_left
      · simp (maxSteps := 400000) only [go_sem, simprocAttr]
        refine leave_rec rfl ?_
        simp (maxSteps := 400000) only [triple, fin 7 (by simp [waxErr, h5', h6, inS, h7]) (by decide), go_sem, simprocAttr]
      simp (maxSteps := 400000) only [go_sem, simprocAttr]
      refine WF_pure (cOut 1 1000 [_, _] true (by simp)) rfl ?_
      simp (maxSteps := 400000) only [List.any_cons, List.any_nil, Bool.or_false, ← Bool.not_and, Bool.not_not, go_sem, simprocAttr]
      cases h8 : (gIn x.rise.lo 1 1000 && gIn x.rise.hi 1 1000)
      · simp (maxSteps := 400000) only [go_sem, simprocAttr]
        refine WF_must (fun h => (by cases h)) fun _ => ?_
        simp (maxSteps := 400000) only [go_sem, simprocAttr]
        refine leave_rec rfl ?_
        simp (maxSteps := 400000) only [triple, fin 7 (by simp [waxErr, h5', h6, inS, h7, h8]) (by decide), go_sem, simprocAttr]
      simp (maxSteps := 400000) only [go_sem, simprocAttr]
      refine WF_pure (cOut 1 2000 [_, _] true (by simp)) rfl ?_
      simp (maxSteps := 400000) only [List.any_cons, List.any_nil, Bool.or_false, ← Bool.not_and, Bool.not_not, go_sem, simprocAttr]
      refine WF_must (fun h9 => ?_) fun h9 => ?_
      rotate_left
      · simp (maxSteps := 400000) only [go_sem, simprocAttr]
        refine leave_rec rfl ?_
        simp (maxSteps := 400000) only [triple, fin 7 (by simp [waxErr, h5', h6, inS, h7, h8, h9]) (by decide), go_sem, simprocAttr]
      simp (maxSteps := 400000) only [go_sem, simprocAttr]
      refine WF_pure (cTurned [x.flow, x.rise, x.spread] true (by simp)) rfl ?_
      simp (maxSteps := 400000) only [List.any_cons, List.any_nil, Bool.or_false, go_sem, simprocAttr]
      refine WF_must (fun h10 => ?_) fun h10 => ?_
      rotate_left
      · simp (maxSteps := 400000) only [go_sem, simprocAttr]
        refine leave_rec rfl ?_
        simp (maxSteps := 400000) only [triple, fin 2 (by simp only [Bool.not_eq_false'] at h10; simp only [waxErr, h5', h6, inS, h7, h8, h9, turnedS, h10, Bool.and_self, if_true]) (by decide), go_sem, simprocAttr]
      simp (maxSteps := 400000) only [go_sem, simprocAttr]
      refine WQ_headA (done ++ [x], r) ⟨by simp [e1], ?_⟩ (by simp) ?_
      · rw [hE, if_pos]
        simp only [Bool.not_eq_true'] at h10
        simp only [waxErr, h5', h6, inS, h7, h8, h9, turnedS, h10, Bool.and_self, if_true, Bool.false_eq_true, if_false]
      · simp (maxSteps := 400000) only [hnx, h5', go_sem, simprocAttr]
    | nil =>
      have hlt : ¬ ((done.length : Int) < (s.waxes.length : Int)) := by rw [e1]; simp
      simp (maxSteps := 400000) only [hlt, decide_false, go_sem, simprocAttr]
      refine leave_no ?_
      have hT : checkTail s none = (0, 0, 0) := by
        simp only [checkTail]
        rw [e2]; rfl
      simp (maxSteps := 400000) only [triple, hT, go_sem, simprocAttr]
theorem gSpan_inS (s : Span) (a b : Int) : gSpan s.lo s.hi a b = if inS s a b = true then (if turnedS s = true then 2 else 0) else 7 := by
  unfold gSpan inS turnedS
  cases gIn s.lo a b <;> cases gIn s.hi a b <;> simp
def spansGo : List (Span × Int × Int) → Int → Int
  | [], w => w
  | q :: r, w => spansGo r (if (gSpan q.1.lo q.1.hi q.2.1 q.2.2 == 7 || w == 0) = true then gSpan q.1.lo q.1.hi q.2.1 q.2.2 else w)
theorem cSpans (l : List (Span × Int × Int)) (b1 b2 b3 : Bool) (hl : l.length < 1000000) :
    PCall Tryz.prog 47 [.slice 2 (l.map fun q => q.1.pv) b1, .slice 1 (l.map fun q => intPV q.2.1) b2, .slice 1 (l.map fun q => intPV q.2.2) b3] (.int .i64 (spansGo l 0)) := by
  refine pcall_of_wp draws (fn := Tryz.f47) (n := 37) (rs := [.tmp 6]) (by kernel_rfl) rfl rfl rfl ok47 (Nat.le_of_ble_eq_true rfl) ?_
  simp (maxSteps := 400000) only [go_sem, simprocAttr]
  refine W_loopH [0, 1, 2] (σ := List (Span × Int × Int) × List (Span × Int × Int) × Int) (fun q => l = q.1 ++ q.2.1 ∧ spansGo l 0 = spansGo q.2.1 q.2.2) (fun q => q.2.1.length) (fun q => [(7, .p (.int .i64 q.2.2)), (8, .p (.int .i64 q.1.length))]) ([], l, 0) ⟨rfl, rfl⟩ ?_ ?_
  · simp (maxSteps := 400000) only [go_sem, simprocAttr] <;> simp
  rintro ⟨done, rest, w⟩ ⟨e1, e2⟩
  dsimp only at e1 e2
  cases rest with
  | nil =>
    have hlt : ¬ ((done.length : Int) < (l.length : Int)) := by rw [e1]; simp
    simp (maxSteps := 400000) only [hlt, decide_false, go_sem, simprocAttr]
    rw [e2]; rfl
  | cons x r =>
    obtain ⟨hx, hlt⟩ := list_at e1
    have hnx : IntKind.i64.wrap ((done.length : Int) + 1) = (((done ++ [x]).length : Nat) : Int) := wrap_add (by omega) (by simp [room]; omega) (by simp)
    rw [spansGo] at e2
    simp (maxSteps := 400000) only [hlt, decide_true, hx, go_sem, simprocAttr]
    refine WDQ_pure (cSpan _ _ _ _) rfl ?_
    simp (maxSteps := 400000) only [go_sem, simprocAttr]
    cases h7 : (gSpan x.1.lo x.1.hi x.2.1 x.2.2 == 7)
    · simp (maxSteps := 400000) only [go_sem, simprocAttr]
      cases h0 : (w == 0)
      · simp (maxSteps := 400000) only [go_sem, simprocAttr]
        refine WQ_headA (done ++ [x], r, w) ⟨by simp [e1], by rw [e2, h7, h0]; rfl⟩ (by simp) ?_
        simp (maxSteps := 400000) only [hnx, go_sem, simprocAttr]
      · simp (maxSteps := 400000) only [go_sem, simprocAttr]
        refine WQ_headA (done ++ [x], r, gSpan x.1.lo x.1.hi x.2.1 x.2.2) ⟨by simp [e1], by rw [e2, h7, h0]; rfl⟩ (by simp) ?_
        simp (maxSteps := 400000) only [hnx, go_sem, simprocAttr]
    · simp (maxSteps := 400000) only [go_sem, simprocAttr]
      refine WQ_headA (done ++ [x], r, gSpan x.1.lo x.1.hi x.2.1 x.2.2) ⟨by simp [e1], by rw [e2, h7]; rfl⟩ (by simp) ?_
      simp (maxSteps := 400000) only [hnx, go_sem, simprocAttr]
theorem spans2 (a b : Span) (x1 y1 x2 y2 : Int) : spansGo [(a, x1, y1), (b, x2, y2)] 0 = if (inS a x1 y1 && inS b x2 y2) = true then (if (turnedS a || turnedS b) = true then 2 else 0) else 7 := by
  simp only [spansGo, gSpan_inS]
  cases inS a x1 y1 <;> cases inS b x2 y2 <;> cases turnedS a <;> cases turnedS b <;> rfl
theorem spans3 (a b c : Span) (x1 y1 x2 y2 x3 y3 : Int) : spansGo [(a, x1, y1), (b, x2, y2), (c, x3, y3)] 0 =
    if (inS a x1 y1 && (inS b x2 y2 && inS c x3 y3)) = true then (if (turnedS a || (turnedS b || turnedS c)) = true then 2 else 0) else 7 := by
  simp only [spansGo, gSpan_inS]
  cases inS a x1 y1 <;> cases inS b x2 y2 <;> cases inS c x3 y3 <;> cases turnedS a <;> cases turnedS b <;> cases turnedS c <;> rfl
theorem cRefCheck (s : Shop) : PCall Tryz.prog 14 [s.pv] (triple (checkSpec s)) := by
  refine pcall_of_wp draws (fn := Tryz.f14) (n := 117) (rs := [.tmp 2, .tmp 3, .tmp 4]) (by kernel_rfl) rfl rfl rfl ok14 (Nat.le_of_ble_eq_true rfl) ?_
  simp (maxSteps := 400000) only [go_sem, simprocAttr]
  refine WF_pure (cIn2 _ _ _) rfl ?_
  simp (maxSteps := 400000) only [go_sem, simprocAttr]
  cases h1 : gIn s.wicks.length 1 12
  · simp (maxSteps := 400000) only [triple, checkSpec, h1, go_sem, simprocAttr]
  simp (maxSteps := 400000) only [go_sem, simprocAttr]
  refine WF_pure (cIn2 _ _ _) rfl ?_
  simp (maxSteps := 400000) only [go_sem, simprocAttr]
  cases h2 : gIn s.waxes.length 1 6
  · simp (maxSteps := 400000) only [triple, checkSpec, h1, h2, go_sem, simprocAttr]
  simp (maxSteps := 400000) only [go_sem, simprocAttr]
  refine WF_pure (cSpans [(s.flame, 0, 2000), (s.pool, 0, 2000)] true true true (by simp)) rfl ?_
  simp (maxSteps := 400000) only [go_sem, simprocAttr]
  rw [spans2]
  cases h3 : (inS s.flame 0 2000 && inS s.pool 0 2000)
  · simp (maxSteps := 400000) only [triple, checkSpec, h1, h2, h3, go_sem, simprocAttr]
  cases h4 : (turnedS s.flame || turnedS s.pool)
  rotate_left
  · simp (maxSteps := 400000) only [triple, checkSpec, h1, h2, h3, h4, go_sem, simprocAttr]
  have hspec : checkSpec s = checkTail s (firstErr wickErr (·.name) s.wicks []) := by
    simp [checkSpec, h1, h2, h3, h4]
  rw [hspec]
  have hlw : s.wicks.length ≤ 12 := by simp [gIn] at h1; omega
  have hlx : s.waxes.length ≤ 6 := by simp [gIn] at h2; omega
  simp (maxSteps := 400000) only [go_sem, simprocAttr]
  refine W_loop_nil 6 1 (by simp (maxSteps := 400000) only [go_sem, simprocAttr]) ?_
  simp (maxSteps := 400000) only [go_sem, simprocAttr]
  refine W_loopA [1] (σ := List Wick × List Wick) (fun q => s.wicks = q.1 ++ q.2 ∧ firstErr wickErr (·.name) s.wicks [] = firstErr wickErr (·.name) q.2 (q.1.map (·.name))) (fun q => q.2.length)
    (fun q => [(6, .slice 1 q.1.length 0 q.1.length), (7, .p (.int .i64 q.1.length))]) (fun q => [.row 6 [.p s.pv], .row 1 (q.1.map fun x => .p (.str x.name))]) ([], s.wicks) ⟨rfl, rfl⟩ ?_ ?_
  · simp (maxSteps := 400000) only [go_sem, simprocAttr] <;> simp
  rintro ⟨done, rest⟩ ⟨e1, e2⟩
  dsimp only at e1 e2
  cases rest with
  | cons x r =>
    obtain ⟨hx, hlt⟩ := list_at e1
    have hln : (done ++ [x]).length ≤ s.wicks.length := by rw [e1]; simp
    have hdl : done.length < 12 := by simp at hln; omega
    have hnx : IntKind.i64.wrap ((done.length : Int) + 1) = (((done ++ [x]).length : Nat) : Int) := wrap_add (by omega) (by simp [room]; omega) (by simp)
    have hrm : done.length + 1 ≤ room := by simp [room]; omega
    have hE : firstErr wickErr (·.name) s.wicks [] = if wickErr (done.map (·.name)) x = 0 then firstErr wickErr (·.name) r ((done ++ [x]).map (·.name)) else some ((done.length : Int), wickErr (done.map (·.name)) x) := by
      rw [e2, firstErr]; simp
    have fin : ∀ e, wickErr (done.map (·.name)) x = e → e ≠ 0 → checkTail s (firstErr wickErr (·.name) s.wicks []) = (2, (done.length : Int), e) := by
      intro e he hne
      rw [hE, he, if_neg hne]; rfl
    simp (maxSteps := 400000) only [hlt, decide_true, hx, go_sem, simprocAttr]
    refine WF_frz (cRefNamedI x.name (done.map (·.name)) false (done.map fun x => .str x.name) (by simp) (by simp; omega)) ?_ (.int _ _) ?_
    · simp (maxSteps := 400000) only [go_sem, simprocAttr]
    simp (maxSteps := 400000) only [hrm, go_sem, simprocAttr]
    cases h5 : (namedErr (done.map (·.name)) x.name == 0)
    · have h5' : namedErr (done.map (·.name)) x.name ≠ 0 := by simpa using h5
      have h5n : (namedErr (done.map (·.name)) x.name != 0) = true := by simp [bne, h5]
      simp (maxSteps := 400000) only [h5, h5n, triple, fin _ (by rw [wickErr, if_neg h5']) h5', go_sem, simprocAttr]
    have h5' : namedErr (done.map (·.name)) x.name = 0 := by simpa using h5
    simp (maxSteps := 400000) only [go_sem, simprocAttr]
    refine WF_pure (cIn2 _ _ _) rfl ?_
    simp (maxSteps := 400000) only [go_sem, simprocAttr]
    cases h6 : gIn x.threads 1 100
    · simp (maxSteps := 400000) only [triple, fin 7 (by simp [wickErr, h5', h6]) (by decide), go_sem, simprocAttr]
    simp (maxSteps := 400000) only [h5, go_sem, simprocAttr]
    refine WF_pure (cSpan _ _ _ _) rfl ?_
    simp (maxSteps := 400000) only [go_sem, simprocAttr]
    have hw : wickErr (done.map (·.name)) x = gSpan x.pull.lo x.pull.hi 1 1000 := by rw [gSpan_inS]; simp [wickErr, h5', h6]
    cases h7 : (gSpan x.pull.lo x.pull.hi 1 1000 != 0)
    · simp (maxSteps := 400000) only [go_sem, simprocAttr]
      refine WQ_headA (done ++ [x], r) ⟨by simp [e1], ?_⟩ (by simp) ?_
      · rw [hE, if_pos]
        rw [hw]; simpa using h7
      · simp (maxSteps := 400000) only [hnx, List.length_append, List.map_append, go_sem, simprocAttr]
    · simp (maxSteps := 400000) only [triple, fin _ hw (by simpa using h7), go_sem, simprocAttr]
  | nil =>
    have hlt : ¬ ((done.length : Int) < (s.wicks.length : Int)) := by rw [e1]; simp
    have hT : checkTail s (firstErr wickErr (·.name) s.wicks []) = checkTail s none := by rw [e2]; rfl
    have hdone : done = s.wicks := by rw [e1]; simp
    rw [hT]
    simp (maxSteps := 400000) only [hlt, decide_false, go_sem, simprocAttr]
    refine W_loop_nil 6 1 (by simp (maxSteps := 400000) only [go_sem, simprocAttr]) ?_
    simp (maxSteps := 400000) only [go_sem, simprocAttr]
    refine W_loopA [1] (σ := List Wax × List Wax) (fun q => s.waxes = q.1 ++ q.2 ∧ firstErr waxErr (·.name) s.waxes [] = firstErr waxErr (·.name) q.2 (q.1.map (·.name))) (fun q => q.2.length)
      (fun q => [(6, .slice 2 q.1.length 0 q.1.length), (9, .p (.int .i64 q.1.length))]) (fun q => [.row 6 [.p s.pv], .row 1 (done.map fun x => .p (.str x.name)), .row 1 (q.1.map fun x => .p (.str x.name))]) ([], s.waxes) ⟨rfl, rfl⟩ ?_ ?_
    · simp (maxSteps := 400000) only [go_sem, simprocAttr] <;> simp
    generalize done = dw
    clear e1 e2 hlt hT hdone
    rintro ⟨done, rest⟩ ⟨e1, e2⟩
    dsimp only at e1 e2
    cases rest with
    | cons x r =>
      obtain ⟨hx, hlt⟩ := list_at e1
      have hln : (done ++ [x]).length ≤ s.waxes.length := by rw [e1]; simp
      have hdl : done.length < 12 := by simp at hln; omega
      have hnx : IntKind.i64.wrap ((done.length : Int) + 1) = (((done ++ [x]).length : Nat) : Int) := wrap_add (by omega) (by simp [room]; omega) (by simp)
      have hrm : done.length + 1 ≤ room := by simp [room]; omega
      have hE : firstErr waxErr (·.name) s.waxes [] = if waxErr (done.map (·.name)) x = 0 then firstErr waxErr (·.name) r ((done ++ [x]).map (·.name)) else some ((done.length : Int), waxErr (done.map (·.name)) x) := by
        rw [e2, firstErr]; simp
      have fin : ∀ e, waxErr (done.map (·.name)) x = e → e ≠ 0 → checkTail s none = (3, (done.length : Int), e) := by
        intro e he hne
        simp only [checkTail]
        rw [hE, he, if_neg hne]
      simp (maxSteps := 400000) only [hlt, decide_true, hx, go_sem, simprocAttr]
      refine WF_frz (cRefNamedI x.name (done.map (·.name)) false (done.map fun x => .str x.name) (by simp) (by simp; omega)) ?_ (.int _ _) ?_
      · simp (maxSteps := 400000) only [go_sem, simprocAttr]
      simp (maxSteps := 400000) only [hrm, go_sem, simprocAttr]
      cases h5 : (namedErr (done.map (·.name)) x.name == 0)
      · have h5' : namedErr (done.map (·.name)) x.name ≠ 0 := by simpa using h5
        have h5n : (namedErr (done.map (·.name)) x.name != 0) = true := by simp [bne, h5]
        simp (maxSteps := 400000) only [h5, h5n, triple, fin _ (by rw [waxErr, if_neg h5']) h5', go_sem, simprocAttr]
      have h5' : namedErr (done.map (·.name)) x.name = 0 := by simpa using h5
      simp (maxSteps := 400000) only [go_sem, simprocAttr]
      refine WF_pure (cIn2 _ _ _) rfl ?_
      simp (maxSteps := 400000) only [go_sem, simprocAttr]
      cases h6 : gIn x.chill 0 50
      · simp (maxSteps := 400000) only [triple, fin 7 (by simp [waxErr, h5', h6]) (by decide), go_sem, simprocAttr]
      simp (maxSteps := 400000) only [h5, go_sem, simprocAttr]
      refine WF_pure (cSpans [(x.flow, 1, 300), (x.rise, 1, 1000), (x.spread, 1, 2000)] true true true (by simp)) rfl ?_
      simp (maxSteps := 400000) only [go_sem, simprocAttr]
      have hw : waxErr (done.map (·.name)) x = spansGo [(x.flow, 1, 300), (x.rise, 1, 1000), (x.spread, 1, 2000)] 0 := by rw [spans3]; simp [waxErr, h5', h6]
      cases h7 : (spansGo [(x.flow, 1, 300), (x.rise, 1, 1000), (x.spread, 1, 2000)] 0 != 0)
      · simp (maxSteps := 400000) only [go_sem, simprocAttr]
        refine WQ_headA (done ++ [x], r) ⟨by simp [e1], ?_⟩ (by simp) ?_
        · rw [hE, if_pos]
          rw [hw]; simpa using h7
        · simp (maxSteps := 400000) only [hnx, List.length_append, List.map_append, go_sem, simprocAttr]
      · simp (maxSteps := 400000) only [triple, fin _ hw (by simpa using h7), go_sem, simprocAttr]
    | nil =>
      have hlt : ¬ ((done.length : Int) < (s.waxes.length : Int)) := by rw [e1]; simp
      simp (maxSteps := 400000) only [hlt, decide_false, go_sem, simprocAttr]
      have hT : checkTail s none = (0, 0, 0) := by
        simp only [checkTail]
        rw [e2]; rfl
      simp (maxSteps := 400000) only [triple, hT, go_sem, simprocAttr]
end Wk
end Abs
end Go.Proofs.YtbojkcmohgbpaaaGreatDoor
