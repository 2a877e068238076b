/-
  CONTRACTS: what is wrong with a test, with a shop and tests: in the program and in the reference. No conditions but those in the theorems' heads.
-/
import Derived.Test.YtdellinghbppgaaGreatDoorHrChk
namespace Go.Proofs.YtdellinghbppgaaGreatDoor
namespace Abs
set_option linter.unusedSimpArgs false
set_option linter.unusedVariables false
set_option maxRecDepth 4000

def markIn (m : HrMark) : Bool := gIn m.minute 0 1000000 && gIn m.weight 0 10000000
def fallsGo : Int → List HrMark → Bool
  | _, [] => false
  | last, m :: r => decide (m.minute ≤ last) || fallsGo m.minute r
def hrTestErr (nk : Int) (t : HrTest) : Int :=
  if gIn t.kind 0 (nk - 1) = true then
    if gIn t.marks.length 2 10 = true then
      if gIn t.error 0 10000 = true then
        if t.marks.all markIn = true then (if fallsGo (-1) t.marks = true then 2 else 0) else 7
      else 7
    else 3
  else 4

theorem cHrCheckT (s : HrShop) (t : HrTest) (hs : s.kinds.length ≤ 1000) : PCall Tryz.prog 64 [s.pv, t.pv] (.int .i64 (hrTestErr s.kinds.length t)) := by
  refine pcall_of_wp draws (fn := Tryz.f64) (n := 57) (rs := [.tmp 4]) (by kernel_rfl) rfl rfl rfl ok64 (Nat.le_of_ble_eq_true rfl) ?_
  have hw : IntKind.i64.wrap ((s.kinds.length : Int) - 1) = (s.kinds.length : Int) - 1 := wrap_in (by omega) (by omega)
  simp (maxSteps := 400000) only [hw, go_sem, simprocAttr]
  refine WF_pure (cHrOut 0 _ [_] true (by simp)) rfl ?_
  simp (maxSteps := 400000) only [List.any_cons, List.any_nil, Bool.or_false, go_sem, simprocAttr]
  cases h1 : gIn t.kind 0 ((s.kinds.length : Int) - 1)
  · simp (maxSteps := 400000) only [hrTestErr, h1, go_sem, simprocAttr]
  simp (maxSteps := 400000) only [go_sem, simprocAttr]
  refine WF_pure (cHrOut 2 10 [_] true (by simp)) rfl ?_
  simp (maxSteps := 400000) only [List.any_cons, List.any_nil, Bool.or_false, go_sem, simprocAttr]
  cases h2 : gIn t.marks.length 2 10
  · simp (maxSteps := 400000) only [hrTestErr, h1, h2, go_sem, simprocAttr]
  simp (maxSteps := 400000) only [go_sem, simprocAttr]
  refine WF_pure (cHrOut 0 10000 [_] true (by simp)) rfl ?_
  simp (maxSteps := 400000) only [List.any_cons, List.any_nil, Bool.or_false, go_sem, simprocAttr]
  cases h3 : gIn t.error 0 10000
  · simp (maxSteps := 400000) only [hrTestErr, h1, h2, h3, go_sem, simprocAttr]
  have hspec : hrTestErr s.kinds.length t = if t.marks.all markIn = true then (if fallsGo (-1) t.marks = true then 2 else 0) else 7 := by simp only [hrTestErr, h1, h2, h3, if_true]
  rw [hspec]
  have hlm : t.marks.length ≤ 10 := by simp [gIn] at h2; omega
  simp (maxSteps := 400000) only [go_sem, simprocAttr]
  refine W_rangeA [30, 31] t.marks (by omega) (τ := Int × Bool) (fun done rest q => t.marks.all markIn = rest.all markIn ∧ fallsGo (-1) t.marks = (q.2 || fallsGo q.1 rest))
    (fun done q => [(32, .p (.int .i64 done.length)), (5, .p (.int .i64 q.1)), (6, .p (.bool q.2))]) (fun _ _ => [.row 3 [.p s.pv], .row 3 [.p t.pv]]) (-1, false) ⟨rfl, by simp⟩ ?_ ?_ ?_
  · simp (maxSteps := 400000) only [go_sem, simprocAttr] <;> simp
  · rintro ⟨last, falls⟩ ⟨e2, e3⟩
    dsimp only at e2 e3
    rw [e2, e3]
    cases falls
    · simp (maxSteps := 400000) only [List.all_nil, fallsGo, go_sem, simprocAttr]
    · simp (maxSteps := 400000) only [List.all_nil, fallsGo, go_sem, simprocAttr]
  · rintro done x r ⟨last, falls⟩ e1 ⟨e2, e3⟩ hx hlt hnx
    dsimp only at e2 e3
    rw [List.all_cons] at e2
    simp (maxSteps := 400000) only [hlt, hx, go_sem, simprocAttr]
    refine WF_pure (cHrOut 0 1000000 [_] true (by simp)) rfl ?_
    simp (maxSteps := 400000) only [List.any_cons, List.any_nil, Bool.or_false, go_sem, simprocAttr]
    cases h4 : gIn x.minute 0 1000000
    · rw [e2, markIn, h4]
      simp (maxSteps := 400000) only [go_sem, simprocAttr]
    simp (maxSteps := 400000) only [go_sem, simprocAttr]
    refine WF_pure (cHrOut 0 10000000 [_] true (by simp)) rfl ?_
    simp (maxSteps := 400000) only [List.any_cons, List.any_nil, Bool.or_false, go_sem, simprocAttr]
    cases h5 : gIn x.weight 0 10000000
    · rw [e2, markIn, h4, h5]
      simp (maxSteps := 400000) only [go_sem, simprocAttr]
    have hm : markIn x = true := by rw [markIn, h4, h5]; rfl
    cases falls
    · simp (maxSteps := 400000) only [go_sem, simprocAttr]
      refine WQ_next e1 (x.minute, decide (x.minute ≤ last)) ⟨by rw [e2, hm]; rfl, by rw [e3, fallsGo]; rfl⟩ ?_
      simp (maxSteps := 400000) only [hnx, go_sem, simprocAttr]
    · simp (maxSteps := 400000) only [go_sem, simprocAttr]
      refine WQ_next e1 (x.minute, true) ⟨by rw [e2, hm]; rfl, by rw [e3]; rfl⟩ ?_
      simp (maxSteps := 400000) only [hnx, go_sem, simprocAttr]

def testsErr (nk : Int) : List HrTest → Int
  | [] => 0
  | t :: r => if hrTestErr nk t = 0 then testsErr nk r else hrTestErr nk t
def hrOpen (s : HrShop) (l : List HrTest) : Int := if (hrCheck s).2.2 = 0 then testsErr s.kinds.length l else (hrCheck s).2.2
theorem hrCheck_kinds {s : HrShop} (h : (hrCheck s).2.2 = 0) : s.kinds.length ≤ 6 ∧ s.rules.length ≤ 6 ∧ 1 ≤ s.kinds.length := by
  unfold hrCheck at h
  split at h
  · rename_i hc
    simp [gIn] at hc
    omega
  · cases h
theorem cHrOpen (s : HrShop) (l : List HrTest) (b : Bool) (hl : (hrCheck s).2.2 = 0 → l.length < 1000000000) : PCall Tryz.prog 52 [s.pv, .slice 3 (l.map HrTest.pv) b] (.int .i64 (hrOpen s l)) := by
  refine pcall_of_wp draws (fn := Tryz.f52) (n := 33) (rs := [.tmp 4]) (by kernel_rfl) rfl rfl rfl ok52 (Nat.le_of_ble_eq_true rfl) ?_
  simp (maxSteps := 400000) only [go_sem, simprocAttr]
  refine WF_pure (cHrCheck s) rfl ?_
  simp (maxSteps := 400000) only [triple, go_sem, simprocAttr]
  cases h0 : ((hrCheck s).2.2 != 0)
  rotate_left
  · have h0' : ¬ (hrCheck s).2.2 = 0 := by simpa using h0
    simp (maxSteps := 400000) only [hrOpen, if_neg h0', go_sem, simprocAttr]
  have h0' : (hrCheck s).2.2 = 0 := by simpa using h0
  have hk := (hrCheck_kinds h0').1
  rw [hrOpen, if_pos h0']
  simp (maxSteps := 400000) only [go_sem, simprocAttr]
  refine W_rangeA [2, 20, 21] l (hl h0') (τ := Unit) (fun done rest _ => testsErr s.kinds.length l = testsErr s.kinds.length rest)
    (fun done _ => [(22, .p (.int .i64 done.length))]) (fun _ _ => [.row 3 [.p s.pv]]) () rfl ?_ ?_ ?_
  · simp (maxSteps := 400000) only [go_sem, simprocAttr] <;> simp
  · intro _ e2
    rw [e2]
    simp (maxSteps := 400000) only [testsErr, go_sem, simprocAttr]
  · intro done x r _ e1 e2 hx hlt hnx
    rw [testsErr] at e2
    simp (maxSteps := 400000) only [hlt, hx, go_sem, simprocAttr]
    refine WF_pure (cHrCheckT s x (by omega)) rfl ?_
    simp (maxSteps := 400000) only [go_sem, simprocAttr]
    cases h1 : (hrTestErr s.kinds.length x != 0)
    · have h1' : hrTestErr s.kinds.length x = 0 := by simpa using h1
      simp (maxSteps := 400000) only [go_sem, simprocAttr]
      refine WQ_next e1 () (by rw [e2, if_pos h1']) ?_
      simp (maxSteps := 400000) only [hnx, go_sem, simprocAttr]
    · have h1' : ¬ hrTestErr s.kinds.length x = 0 := by simpa using h1
      simp (maxSteps := 400000) only [e2, if_neg h1', go_sem, simprocAttr]

/-! the reference -/
theorem falls_first {m : HrMark} {r : List HrMark} (h : markIn m = true) : fallsGo (-1) (m :: r) = fallsGo m.minute r := by
  have : ¬ m.minute ≤ -1 := by simp [markIn, gIn] at h; omega
  simp [fallsGo, this]
theorem cRefHrTest (s : HrShop) (t : HrTest) (hs : s.kinds.length ≤ 1000) : PCall Tryz.prog 67 [s.pv, t.pv] (.int .i64 (hrTestErr s.kinds.length t)) := by
  refine pcall_of_wp draws (fn := Tryz.f67) (n := 70) (rs := [.tmp 4]) (by kernel_rfl) rfl rfl rfl ok67 (Nat.le_of_ble_eq_true rfl) ?_
  have hw : IntKind.i64.wrap ((s.kinds.length : Int) - 1) = (s.kinds.length : Int) - 1 := wrap_in (by omega) (by omega)
  simp (maxSteps := 400000) only [hw, go_sem, simprocAttr]
  refine WF_pure (cIn3 _ _ _) rfl ?_
  simp (maxSteps := 400000) only [go_sem, simprocAttr]
  cases h1 : gIn t.kind 0 ((s.kinds.length : Int) - 1)
  · simp (maxSteps := 400000) only [hrTestErr, h1, go_sem, simprocAttr]
  simp (maxSteps := 400000) only [go_sem, simprocAttr]
  refine WF_pure (cIn3 _ _ _) rfl ?_
  simp (maxSteps := 400000) only [go_sem, simprocAttr]
  cases h2 : gIn t.marks.length 2 10
  · simp (maxSteps := 400000) only [hrTestErr, h1, h2, go_sem, simprocAttr]
  simp (maxSteps := 400000) only [go_sem, simprocAttr]
  refine WF_pure (cIn3 _ _ _) rfl ?_
  simp (maxSteps := 400000) only [go_sem, simprocAttr]
  cases h3 : gIn t.error 0 10000
  · simp (maxSteps := 400000) only [hrTestErr, h1, h2, h3, go_sem, simprocAttr]
  have hspec : hrTestErr s.kinds.length t = if t.marks.all markIn = true then (if fallsGo (-1) t.marks = true then 2 else 0) else 7 := by simp only [hrTestErr, h1, h2, h3, if_true]
  rw [hspec]
  have hlm : t.marks.length ≤ 10 := by simp [gIn] at h2; omega
  have hlm2 : 2 ≤ t.marks.length := by simp [gIn] at h2; omega
  simp (maxSteps := 400000) only [go_sem, simprocAttr]
  refine W_rangeA [3] t.marks (by omega) (τ := Unit) (fun done rest _ => t.marks.all markIn = rest.all markIn)
    (fun done _ => [(5, .p (.int .i64 done.length))]) (fun _ _ => [.row 3 [.p s.pv], .row 3 [.p t.pv]]) () rfl ?_ ?_ ?_
  · simp (maxSteps := 400000) only [go_sem, simprocAttr] <;> simp
  · intro _ e2
    rw [e2, List.all_nil, if_pos rfl]
    simp (maxSteps := 400000) only [go_sem, simprocAttr]
    cases hm : t.marks with
    | nil => rw [hm] at hlm2; simp at hlm2
    | cons m0 ms =>
      have hm0 : markIn m0 = true := by rw [hm, List.all_nil, List.all_cons] at e2; simp at e2; exact e2.1
      rw [falls_first hm0]
      refine W_loopA [3] (σ := List HrMark × HrMark × List HrMark) (fun q => t.marks = q.1 ++ q.2.1 :: q.2.2 ∧ fallsGo m0.minute ms = fallsGo q.2.1.minute q.2.2) (fun q => q.2.2.length)
        (fun q => [(6, .p (.int .i64 (q.1.length + 1 : Nat)))]) (fun _ => [.row 3 [.p s.pv], .row 3 [.p t.pv]]) ([], m0, ms) ⟨hm, rfl⟩ ?_ ?_
      · simp (maxSteps := 400000) only [← hm, go_sem, simprocAttr] <;> simp
      rintro ⟨done, m, r⟩ ⟨e3, e4⟩
      dsimp only at e3 e4
      have hlen := congrArg List.length e3
      simp only [List.length_append, List.length_cons] at hlen
      cases r with
      | nil =>
        have hlt : decide (((done.length + 1 : Nat) : Int) < (t.marks.length : Int)) = false := by simp at hlen ⊢; omega
        rw [e4, fallsGo]
        simp (maxSteps := 400000) only [← hm, hlt, go_sem, simprocAttr]
      | cons x r =>
        simp only [List.length_cons] at hlen
        have hlt : decide (((done.length + 1 : Nat) : Int) < (t.marks.length : Int)) = true := by simp; omega
        have hlt1 : ((done.length + 1 : Nat) : Int) < (t.marks.length : Int) := by omega
        have hlt2 : ((done.length : Nat) : Int) < (t.marks.length : Int) := by omega
        have hw1 : IntKind.i64.wrap (((done.length + 1 : Nat) : Int) - 1) = ((done.length : Nat) : Int) := by rw [wrap_in (by omega) (by omega)]; omega
        have hx1 : t.marks[done.length + 1]? = some x := by rw [e3]; simp
        have hx2 : t.marks[done.length]? = some m := by rw [e3]; simp
        have hnx : IntKind.i64.wrap (((done.length + 1 : Nat) : Int) + 1) = (((done ++ [m]).length + 1 : Nat) : Int) := wrap_add (by omega) (by simp [room]; omega) (by simp)
        rw [fallsGo] at e4
        simp (maxSteps := 400000) only [← hm, hlt, hlt1, hlt2, hw1, hx1, hx2, go_sem, simprocAttr]
        cases h6 : decide (x.minute ≤ m.minute)
        · simp (maxSteps := 400000) only [go_sem, simprocAttr]
          refine WQ_headA (done ++ [m], x, r) ⟨by rw [e3]; simp, by rw [e4, h6]; rfl⟩ (Nat.lt_succ_self _) ?_
          simp (maxSteps := 400000) only [hnx, go_sem, simprocAttr]
        · rw [e4, h6]
          simp (maxSteps := 400000) only [go_sem, simprocAttr]
  · intro done x r _ e1 e2 hx hlt hnx
    rw [List.all_cons] at e2
    simp (maxSteps := 400000) only [hlt, hx, go_sem, simprocAttr]
    refine WF_pure (cIn3 _ _ _) rfl ?_
    simp (maxSteps := 400000) only [go_sem, simprocAttr]
    cases h4 : gIn x.minute 0 1000000
    · rw [e2, markIn, h4]
      simp (maxSteps := 400000) only [go_sem, simprocAttr]
    simp (maxSteps := 400000) only [hlt, hx, go_sem, simprocAttr]
    refine WF_pure (cIn3 _ _ _) rfl ?_
    simp (maxSteps := 400000) only [go_sem, simprocAttr]
    cases h5 : gIn x.weight 0 10000000
    · rw [e2, markIn, h4, h5]
      simp (maxSteps := 400000) only [go_sem, simprocAttr]
    have hm : markIn x = true := by rw [markIn, h4, h5]; rfl
    simp (maxSteps := 400000) only [go_sem, simprocAttr]
    refine WQ_next e1 () (by rw [e2, hm]; rfl) ?_
    simp (maxSteps := 400000) only [hnx, go_sem, simprocAttr]
theorem cRefTest (s : HrShop) (t : HrTest) : PCall Tryz.prog 34 [s.pv, t.pv] (.int .i64 (hrOpen s [t])) := by
  refine pcall_of_wp draws (fn := Tryz.f34) (n := 20) (rs := [.tmp 4]) (by kernel_rfl) rfl rfl rfl ok34 (Nat.le_of_ble_eq_true rfl) ?_
  simp (maxSteps := 400000) only [go_sem, simprocAttr]
  refine WF_pure (cRefHrCheck s) rfl ?_
  simp (maxSteps := 400000) only [triple, go_sem, simprocAttr]
  cases h0 : ((hrCheck s).2.2 == 0)
  · have h0' : ¬ (hrCheck s).2.2 = 0 := by simpa using h0
    simp (maxSteps := 400000) only [hrOpen, if_neg h0', go_sem, simprocAttr]
  have h0' : (hrCheck s).2.2 = 0 := by simpa using h0
  have hk := (hrCheck_kinds h0').1
  simp (maxSteps := 400000) only [go_sem, simprocAttr]
  refine WF_pure (cRefHrTest s t (by omega)) rfl ?_
  simp (maxSteps := 400000) only [hrOpen, if_pos h0', testsErr, go_sem, simprocAttr]
  split
  · assumption
  · rfl
def hrTests (s : HrShop) (l : List HrTest) : Int := if (hrCheck s).2.2 = 0 then (if 8 < l.length then 3 else testsErr s.kinds.length l) else (hrCheck s).2.2
theorem cRefTests (s : HrShop) (l : List HrTest) (b : Bool) : PCall Tryz.prog 37 [s.pv, .slice 3 (l.map HrTest.pv) b] (.int .i64 (hrTests s l)) := by
  refine pcall_of_wp draws (fn := Tryz.f37) (n := 39) (rs := [.tmp 4]) (by kernel_rfl) rfl rfl rfl ok37 (Nat.le_of_ble_eq_true rfl) ?_
  simp (maxSteps := 400000) only [go_sem, simprocAttr]
  refine WF_pure (cRefHrCheck s) rfl ?_
  simp (maxSteps := 400000) only [triple, go_sem, simprocAttr]
  have fin : ∀ e : Int, (hrCheck s).2.2 = e → e ≠ 0 → hrTests s l = e := by
    intro e he hne
    rw [hrTests, he, if_neg hne]
  cases h0 : ((hrCheck s).2.2 == 0)
  · have h0' : (hrCheck s).2.2 ≠ 0 := by simpa using h0
    rw [fin _ rfl h0']
    simp (maxSteps := 400000) only [go_sem, simprocAttr]
    refine W_unroll ?_
    cases hl : decide ((0 : Int) < (l.length : Int))
    · simp (maxSteps := 400000) only [hl, go_sem, simprocAttr]
    · simp (maxSteps := 400000) only [hl, h0, go_sem, simprocAttr]
  have h0' : (hrCheck s).2.2 = 0 := by simpa using h0
  have hk := (hrCheck_kinds h0').1
  have hspec : hrTests s l = (if 8 < l.length then 3 else testsErr s.kinds.length l) := by rw [hrTests, if_pos h0']
  simp (maxSteps := 400000) only [go_sem, simprocAttr]
  cases h8 : decide ((8 : Int) < (l.length : Int))
  rotate_left
  · have h8' : 8 < l.length := by simp at h8; omega
    rw [hspec, if_pos h8']
    simp (maxSteps := 400000) only [go_sem, simprocAttr]
    refine W_unroll ?_
    cases hl : decide ((0 : Int) < (l.length : Int))
    · simp (maxSteps := 400000) only [hl, go_sem, simprocAttr]
    · simp (maxSteps := 400000) only [hl, go_sem, simprocAttr]
  have h8' : ¬ 8 < l.length := by simp at h8; omega
  rw [hspec, if_neg h8']
  simp (maxSteps := 400000) only [h0', go_sem, simprocAttr]
  refine W_loopA [1, 2] (σ := List HrTest × List HrTest × Int) (fun q => l = q.1 ++ q.2.1 ∧ testsErr s.kinds.length l = (if q.2.2 = 0 then testsErr s.kinds.length q.2.1 else q.2.2)) (fun q => q.2.1.length)
    (fun q => [(7, .p (.int .i64 q.2.2)), (8, .p (.int .i64 q.1.length))]) (fun _ => [.row 3 [.p s.pv]]) ([], l, 0) ⟨rfl, by simp⟩ ?_ ?_
  · simp (maxSteps := 400000) only [go_sem, simprocAttr] <;> simp
  rintro ⟨done, rest, e⟩ ⟨e1, e2⟩
  dsimp only at e1 e2
  cases rest with
  | nil =>
    have hlt : ¬ ((done.length : Int) < (l.length : Int)) := by rw [e1]; simp
    have he : testsErr s.kinds.length l = e := by
      rw [e2]
      split
      · rename_i h; rw [h]; rfl
      · rfl
    simp (maxSteps := 400000) only [hlt, decide_false, he, go_sem, simprocAttr]
  | cons x r =>
    obtain ⟨hx, hlt⟩ := list_at e1
    have hnx : IntKind.i64.wrap ((done.length : Int) + 1) = (((done ++ [x]).length : Nat) : Int) := wrap_add (by omega) (by have := congrArg List.length e1; simp at this; simp [room]; omega) (by simp)
    cases he : (e == 0)
    · have he' : ¬ e = 0 := by simpa using he
      rw [if_neg he'] at e2
      simp (maxSteps := 400000) only [hlt, decide_true, he, e2, go_sem, simprocAttr]
    · have he' : e = 0 := by simpa using he
      rw [if_pos he', testsErr] at e2
      simp (maxSteps := 400000) only [hlt, decide_true, he, hx, go_sem, simprocAttr]
      refine WDQ_pure (cRefHrTest s x (by omega)) rfl ?_
      simp (maxSteps := 400000) only [go_sem, simprocAttr]
      refine WQ_headA (done ++ [x], r, hrTestErr s.kinds.length x) ⟨by simp [e1], by rw [e2]⟩ (Nat.lt_succ_self _) ?_
      simp (maxSteps := 400000) only [hnx, go_sem, simprocAttr]
end Abs
end Go.Proofs.YtdellinghbppgaaGreatDoor
