/-
  CONTRACTS: boxes whose promise can be broken. No conditions but those in the theorems' heads.
-/
import Derived.Test.YtdellinghbppgaaGreatDoorHrUse
namespace Go.Proofs.YtdellinghbppgaaGreatDoor
namespace Abs
set_option linter.unusedSimpArgs false
set_option linter.unusedVariables false
set_option maxRecDepth 4000

/-! maps of numbers -/
def mpE (p : Int × Int) : PV × PV := (.int .i64 p.1, .int .i64 p.2)
def mpGet (k : Int) : List (Int × Int) → Option Int
  | [] => none
  | (q, v) :: r => if k = q then some v else mpGet k r
theorem mapGet_int (k : Int) : ∀ es : List (Int × Int), mapGet (.int .i64 k) (es.map mpE) = some ((mpGet k es).map fun v => .int .i64 v)
  | [] => rfl
  | (q, v) :: r => by
    rw [List.map_cons, mapGet.eq_def]
    simp only [mpE, keyEq, if_true]
    cases h : (k == q)
    · rw [mpGet, if_neg (by simpa using h)]
      exact mapGet_int k r
    · rw [mpGet, if_pos (by simpa using h)]
      rfl
theorem mapPut_int (k v : Int) : ∀ es : List (Int × Int), mpGet k es = none → mapPut (.int .i64 k) (.int .i64 v) (es.map mpE) = some ((es ++ [(k, v)]).map mpE)
  | [], _ => rfl
  | (q, u) :: r, h => by
    rw [mpGet] at h
    split at h
    · cases h
    · rename_i hne
      rw [List.map_cons, mapPut.eq_def]
      simp only [mpE, keyEq, if_true]
      rw [show (k == q) = false by simpa using hne]
      dsimp only
      rw [mapPut_int k v r h]
      rfl
theorem mpGet_append (k : Int) (a : Int × Int) : ∀ es : List (Int × Int), mpGet k (es ++ [a]) = (mpGet k es).or (if k = a.1 then some a.2 else none)
  | [] => by simp [mpGet]
  | (q, u) :: r => by
    rw [List.cons_append, mpGet, mpGet]
    split
    · rfl
    · exact mpGet_append k a r

/-! boxes -/
def boxErr (s : HrShop) (l : List HrTest) (b : HrBox) : Int :=
  if gIn b.kind 0 ((s.kinds.length : Int) - 1) = true then (if gIn b.hours 0 1000000 = true then (hrLook s l b.kind).2 else 7) else 4
def brokenGo (s : HrShop) (l : List HrTest) : Nat → List HrBox → List Int × Int
  | _, [] => ([], 0)
  | i, b :: r =>
    if boxErr s l b = 0 then
      (if (brokenGo s l (i + 1) r).2 = 0 then ((if (hrLook s l b.kind).1.promise < b.hours then [(i : Int)] else []) ++ (brokenGo s l (i + 1) r).1, 0) else ([], (brokenGo s l (i + 1) r).2))
    else ([], boxErr s l b)
def hrBroken (s : HrShop) (l : List HrTest) (boxes : List HrBox) : List Int × Int :=
  if hrTests s l = 0 then (if 20 < boxes.length then ([], 3) else brokenGo s l 0 boxes) else ([], hrTests s l)
def joinB (out : List Int) (q : List Int × Int) : List Int × Int := if q.2 = 0 then (out ++ q.1, 0) else ([], q.2)
theorem join_err {s : HrShop} {l : List HrTest} {out : List Int} {i : Nat} {b : HrBox} {r : List HrBox} {e : Int} (h : boxErr s l b = e) (he : e ≠ 0) : joinB out (brokenGo s l i (b :: r)) = ([], e) := by
  rw [brokenGo, h, if_neg he, joinB, if_neg he]
theorem join_ok {s : HrShop} {l : List HrTest} {out : List Int} {i : Nat} {b : HrBox} {r : List HrBox} (h : boxErr s l b = 0) :
    joinB out (brokenGo s l i (b :: r)) = joinB (out ++ (if (hrLook s l b.kind).1.promise < b.hours then [(i : Int)] else [])) (brokenGo s l (i + 1) r) := by
  rw [brokenGo, if_pos h]
  by_cases h2 : (brokenGo s l (i + 1) r).2 = 0
  · rw [if_pos h2, joinB, joinB, if_pos rfl, if_pos h2, List.append_assoc]
  · rw [if_neg h2, joinB, joinB, if_neg h2, if_neg h2]
theorem look_minus (s : HrShop) (l : List HrTest) : hrLook s l (-1) = (⟨emptyK, ⟨0, 0⟩⟩, if hrTests s l = 0 then 4 else hrTests s l) := by
  rw [hrLook]
  split
  · rw [show gIn (-1) 0 ((s.kinds.length : Int) - 1) = false by simp [gIn]]; rfl
  · rfl
set_option maxHeartbeats 2000000 in
theorem cBroken (s : HrShop) (l : List HrTest) (boxes : List HrBox) : PCall Tryz.prog 41 [s.pv, .slice 3 (l.map HrTest.pv) false, .slice 2 (boxes.map HrBox.pv) false] (.tuple [nums (hrBroken s l boxes).1, .int .i64 (hrBroken s l boxes).2]) := by
  refine pcall_of_wp_frzN draws (fn := Tryz.f41) (n := 91) (rs := [.tmp 6, .tmp 7]) (by kernel_rfl) rfl rfl rfl ok41 (Nat.le_of_ble_eq_true rfl) ?_
  simp (maxSteps := 400000) only [go_sem, simprocAttr]
  refine WF_pure (cLook s l (-1)) rfl ?_
  simp (maxSteps := 400000) only [look_minus, go_sem, simprocAttr]
  cases h0 : decide (hrTests s l = 0)
  · have h0' : ¬ hrTests s l = 0 := by simpa using h0
    have hsp : hrBroken s l boxes = ([], hrTests s l) := by rw [hrBroken, if_neg h0']
    rw [hsp, if_neg h0']
    have hch : (hrCheck s).2.2 = 0 → hrTests s l = 4 → l.length < 1000000000 := by
      intro hc h4
      unfold hrTests at h4
      rw [if_pos hc] at h4
      split at h4
      · cases h4
      · omega
    cases h4 : (hrTests s l != 4)
    · have h4' : hrTests s l = 4 := by simpa using h4
      simp (maxSteps := 400000) only [go_sem, simprocAttr]
      refine WF_pure (cHrOpen s l false (fun hc => hch hc h4')) rfl ?_
      have hop : (hrOpen s l != 0) = true := by
        unfold hrTests at h4'
        unfold hrOpen
        split at h4'
        · rename_i hc
          split at h4'
          · cases h4'
          · rw [if_pos hc, h4']; rfl
        · rename_i hc
          rw [if_neg hc, h4']; rfl
      simp (maxSteps := 400000) only [hop, nums, List.map_nil, go_sem, simprocAttr]
      exact ⟨_, _, rfl, rfl, .inr ⟨rfl, 1, rfl⟩, .inl rfl, trivial⟩
    · simp (maxSteps := 400000) only [nums, List.map_nil, go_sem, simprocAttr]
      exact ⟨_, _, rfl, rfl, .inr ⟨rfl, 1, rfl⟩, .inl rfl, trivial⟩
  have h0' : hrTests s l = 0 := by simpa using h0
  have hok := hrTests_ok h0'
  have hkk := hrCheck_kinds hok.1
  have hop : hrOpen s l = 0 := by rw [hrOpen, if_pos hok.1, hok.2.2]
  rw [if_pos h0']
  simp (maxSteps := 400000) only [go_sem, simprocAttr]
  refine WF_pure (cHrOpen s l false (fun _ => by omega)) rfl ?_
  simp (maxSteps := 400000) only [hop, go_sem, simprocAttr]
  cases h20 : decide ((20 : Int) < (boxes.length : Int))
  rotate_left
  · have h20' : 20 < boxes.length := by simp at h20; omega
    have hsp : hrBroken s l boxes = ([], 3) := by rw [hrBroken, if_pos h0', if_pos h20']
    rw [hsp]
    simp (maxSteps := 400000) only [nums, List.map_nil, go_sem, simprocAttr]
    exact ⟨_, _, rfl, rfl, .inr ⟨rfl, 1, rfl⟩, .inl rfl, trivial⟩
  have h20' : ¬ 20 < boxes.length := by simp at h20; omega
  have hsp : hrBroken s l boxes = brokenGo s l 0 boxes := by rw [hrBroken, if_pos h0', if_neg h20']
  rw [hsp]
  have hj : brokenGo s l 0 boxes = joinB [] (brokenGo s l 0 boxes) := by
    have key : ∀ q : List Int × Int, (q.2 ≠ 0 → q.1 = []) → q = joinB [] q := by
      rintro ⟨a, b⟩ h
      simp only [joinB, List.nil_append]
      split
      · rename_i h1; rw [show b = 0 from h1]
      · rename_i h1; rw [show a = [] from h h1]
    refine key _ ?_
    generalize (0 : Nat) = i
    cases boxes with
    | nil => intro h; exact absurd rfl h
    | cons b r =>
      intro h
      rw [brokenGo] at h ⊢
      split
      · split
        · rename_i h1 h2; rw [if_pos h1, if_pos h2] at h; exact absurd rfl h
        · rfl
      · rfl
  rw [hj]
  simp (maxSteps := 400000) only [go_sem, simprocAttr]
  refine W_loop_nil 6 1 (by simp (maxSteps := 400000) only [go_sem, simprocAttr]) ?_
  simp (maxSteps := 400000) only [go_sem, simprocAttr]
  refine W_loopK [1, 3, 8, 36, 37] (σ := List HrBox × List HrBox × List Int × List (Int × Int) × Heap)
    (fun q => boxes = q.1 ++ q.2.1 ∧ joinB [] (brokenGo s l 0 boxes) = joinB q.2.2.1 (brokenGo s l q.1.length q.2.1) ∧ q.2.2.1.length ≤ q.1.length ∧
      ∀ k v, mpGet k q.2.2.2.1 = some v → (hrLook s l k).2 = 0 ∧ v = (hrLook s l k).1.promise) (fun q => q.2.1.length)
    (fun q => [(6, .slice 2 q.2.2.1.length 0 q.2.2.1.length), (38, .p (.int .i64 q.1.length))])
    (fun q => [.row 3 [.p s.pv], .mp (q.2.2.2.1.map mpE), .row 1 (q.2.2.1.map fun n => .p (intPV n))] ++ q.2.2.2.2) ([], boxes, [], [], []) ⟨rfl, rfl, Nat.le_refl _, fun k v h => by cases h⟩ (by simp (maxSteps := 400000) only [List.map_nil, List.append_nil, go_sem, simprocAttr]) ?_ ?_
  · simp (maxSteps := 400000) only [go_sem, simprocAttr]
  rintro ⟨done, rest, out, es, g⟩ ⟨e1, e2, e3, e4⟩
  dsimp only at e1 e2 e3 e4
  cases rest with
  | nil =>
    have hlt : ¬ ((done.length : Int) < (boxes.length : Int)) := by rw [e1]; simp
    have e5 : joinB out (brokenGo s l done.length []) = (out, 0) := by rw [brokenGo, joinB, if_pos rfl, List.append_nil]
    rw [e2, e5]
    simp (maxSteps := 400000) only [hlt, decide_false, nums, go_sem, simprocAttr]
    exact .inl rfl
  | cons b r =>
    obtain ⟨hx, hltt⟩ := list_at e1
    have hlen1 := congrArg List.length e1
    simp only [List.length_append, List.length_cons] at hlen1
    have hnx : IntKind.i64.wrap ((done.length : Int) + 1) = (((done ++ [b]).length : Nat) : Int) := wrap_add (by omega) (by simp [room]; omega) (by simp)
    have g0 := hap_g0 (lo := g) rfl
    have s0 := hap_s0 (lo := g) rfl
    have gg := hap_gg (lo := g) rfl
    have ss := hap_ss (lo := g) rfl
    have hw : IntKind.i64.wrap ((s.kinds.length : Int) - 1) = (s.kinds.length : Int) - 1 := wrap_in (by omega) (by omega)
    simp (maxSteps := 400000) only [hltt, decide_true, hx, g0, s0, gg, ss, hw, go_sem, simprocAttr]
    refine WF_pure (cHrOut 0 _ [_] true (by simp)) rfl ?_
    simp (maxSteps := 400000) only [List.any_cons, List.any_nil, Bool.or_false, go_sem, simprocAttr]
    cases h2 : gIn b.kind 0 ((s.kinds.length : Int) - 1)
    · rw [e2, join_err (e := 4) (by rw [boxErr, h2]; rfl) (by decide)]
      simp (maxSteps := 400000) only [nums, List.map_nil, go_sem, simprocAttr]
      exact ⟨_, _, rfl, rfl, .inr ⟨rfl, 1, rfl⟩, .inl rfl, trivial⟩
    simp (maxSteps := 400000) only [g0, s0, gg, ss, go_sem, simprocAttr]
    refine WF_pure (cHrOut 0 1000000 [_] true (by simp)) rfl ?_
    simp (maxSteps := 400000) only [List.any_cons, List.any_nil, Bool.or_false, go_sem, simprocAttr]
    cases h3 : gIn b.hours 0 1000000
    · rw [e2, join_err (e := 7) (by rw [boxErr, h2, h3]; rfl) (by decide)]
      simp (maxSteps := 400000) only [nums, List.map_nil, go_sem, simprocAttr]
      exact ⟨_, _, rfl, rfl, .inr ⟨rfl, 1, rfl⟩, .inl rfl, trivial⟩
    have hbe : boxErr s l b = (hrLook s l b.kind).2 := by rw [boxErr, h2, h3]; rfl
    have hgi := mapGet_int b.kind es
    simp (maxSteps := 400000) only [g0, s0, gg, ss, hgi, go_sem, simprocAttr]
    have hrm : out.length + 1 ≤ room := by simp [room]; omega
    cases hm : mpGet b.kind es with
    | some v =>
      obtain ⟨hl0, rfl⟩ := e4 _ _ hm
      have hj2 := join_ok (out := out) (i := done.length) (r := r) (hbe.trans hl0)
      simp (maxSteps := 400000) only [g0, s0, gg, ss, go_sem, simprocAttr]
      cases h9 : decide ((hrLook s l b.kind).1.promise < b.hours)
      · have h9' : ¬ (hrLook s l b.kind).1.promise < b.hours := by simpa using h9
        rw [if_neg h9', List.append_nil] at hj2
        simp (maxSteps := 400000) only [g0, s0, gg, ss, go_sem, simprocAttr]
        refine WQ_headK (done ++ [b], r, out, es, g ++ [.row 2 [.p b.pv]]) ⟨by rw [e1]; simp, by rw [e2, hj2]; simp, by simp; omega, e4⟩ (Nat.lt_succ_self _) (by simp (maxSteps := 400000) only [List.append_assoc, go_sem, simprocAttr]) ?_
        simp (maxSteps := 400000) only [hnx, go_sem, simprocAttr]
      · have h9' : (hrLook s l b.kind).1.promise < b.hours := by simpa using h9
        rw [if_pos h9'] at hj2
        simp (maxSteps := 400000) only [g0, s0, gg, ss, hrm, go_sem, simprocAttr]
        refine WQ_headK (done ++ [b], r, out ++ [((done.length : Nat) : Int)], es, g ++ [.row 2 [.p b.pv]]) ⟨by rw [e1]; simp, by rw [e2, hj2]; simp, by simp; omega, e4⟩ (Nat.lt_succ_self _) (by simp (maxSteps := 400000) only [List.append_assoc, List.map_append, go_sem, simprocAttr]) ?_
        simp (maxSteps := 400000) only [hnx, List.length_append, List.length_singleton, go_sem, simprocAttr]
    | none =>
      simp (maxSteps := 400000) only [g0, s0, gg, ss, go_sem, simprocAttr]
      refine WF_pure (cLook s l b.kind) rfl ?_
      simp (maxSteps := 400000) only [g0, s0, gg, ss, List.append_assoc, List.length_append, List.length_singleton, go_sem, simprocAttr]
      cases hl : ((hrLook s l b.kind).2 != 0)
      rotate_left
      · have hl' : (hrLook s l b.kind).2 ≠ 0 := by simpa using hl
        rw [e2, join_err hbe hl']
        simp (maxSteps := 400000) only [nums, List.map_nil, go_sem, simprocAttr]
        exact ⟨_, _, rfl, rfl, .inr ⟨rfl, 1, rfl⟩, .inl rfl, trivial⟩
      have hl0 : (hrLook s l b.kind).2 = 0 := by simpa using hl
      have hj2 := join_ok (out := out) (i := done.length) (r := r) (hbe.trans hl0)
      have hmp := mapPut_int b.kind (hrLook s l b.kind).1.promise es hm
      have hes : ∀ k v, mpGet k (es ++ [(b.kind, (hrLook s l b.kind).1.promise)]) = some v → (hrLook s l k).2 = 0 ∧ v = (hrLook s l k).1.promise := by
        intro k v h
        rw [mpGet_append] at h
        cases hk : mpGet k es with
        | some u => rw [hk] at h; cases h; exact e4 k _ hk
        | none =>
          rw [hk] at h
          dsimp only [Option.or] at h
          split at h
          · rename_i hkk; cases h; rw [hkk]; exact ⟨hl0, rfl⟩
          · cases h
      simp (maxSteps := 400000) only [g0, s0, gg, ss, go_sem, simprocAttr]
      refine WF_pure (cPromise0 _ (hrLook_ok hl0).1) rfl ?_
      simp (maxSteps := 400000) only [g0, s0, gg, ss, hmp, go_sem, simprocAttr]
      cases h9 : decide ((hrLook s l b.kind).1.promise < b.hours)
      · have h9' : ¬ (hrLook s l b.kind).1.promise < b.hours := by simpa using h9
        rw [if_neg h9', List.append_nil] at hj2
        simp (maxSteps := 400000) only [g0, s0, gg, ss, go_sem, simprocAttr]
        refine WQ_headK (done ++ [b], r, out, es ++ [(b.kind, (hrLook s l b.kind).1.promise)], g ++ [.row 2 [.p b.pv], .row 6 [.p (hrLook s l b.kind).1.pv]]) ⟨by rw [e1]; simp, by rw [e2, hj2]; simp, by simp; omega, hes⟩ (Nat.lt_succ_self _) (by simp (maxSteps := 400000) only [List.append_assoc, go_sem, simprocAttr]) ?_
        simp (maxSteps := 400000) only [hnx, go_sem, simprocAttr]
      · have h9' : (hrLook s l b.kind).1.promise < b.hours := by simpa using h9
        rw [if_pos h9'] at hj2
        simp (maxSteps := 400000) only [g0, s0, gg, ss, hrm, go_sem, simprocAttr]
        refine WQ_headK (done ++ [b], r, out ++ [((done.length : Nat) : Int)], es ++ [(b.kind, (hrLook s l b.kind).1.promise)], g ++ [.row 2 [.p b.pv], .row 6 [.p (hrLook s l b.kind).1.pv]]) ⟨by rw [e1]; simp, by rw [e2, hj2]; simp, by simp; omega, hes⟩ (Nat.lt_succ_self _) (by simp (maxSteps := 400000) only [List.append_assoc, List.map_append, go_sem, simprocAttr]) ?_
        simp (maxSteps := 400000) only [hnx, List.length_append, List.length_singleton, go_sem, simprocAttr]

end Abs
end Go.Proofs.YtdellinghbppgaaGreatDoor
